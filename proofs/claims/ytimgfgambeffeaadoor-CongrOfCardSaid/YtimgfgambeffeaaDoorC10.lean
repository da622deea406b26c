-- Written by wip/xprint.py (the session's program over the kit's print).
import Derived.Test.YtimgfgambeffeaaDoorEb
import Derived.Test.YtimgfgambeffeaaDoorCd
import Derived.Test.YtimgfgambeffeaaDoorC0
import Derived.Test.YtimgfgambeffeaaDoorC4
import Derived.Test.YtimgfgambeffeaaDoorC6
import Derived.Test.YtimgfgambeffeaaDoorC7
import Derived.Test.YtimgfgambeffeaaDoorC9
namespace Go.Proofs.YtimgfgambeffeaaDoor.C
open Go.RowKit Go.Proofs.YtimgfgambeffeaaDoorW.PrintWords Go.Proofs.YtimgfgambeffeaaDoorW.PrintLast Go.Proofs.YtimgfgambeffeaaDoorW.PrintMore Go.Proofs.Rcg
attribute [local go_sem] max2_int min2_int max_two min_two max_three min_three max_four min_four   -- for this text's walks alone
set_option linter.unusedVariables false
set_option linter.unusedSimpArgs false

/-! ### L2_CongrOf: function 6 -/
mutual
def L2_CongrOf.j0 : Nat → Int → Bool → Bool → Int → Int → Int → Int → Option (Bool)
 | 0, _, _, _, _, _, _, _ => none
 | k + 1, x2, x7, x20, x214000, x214001, x215000, x215001 => if x20 = true then (some x7) else ((R2_CongrError.f k x214000 x214001).bind fun t217 => ((L2_own.f x214000 x214001).bind fun bt218 => ((congr_Valid.f k bt218.1 bt218.2).bind fun t220 => ((L2_coded.f t220 t217).bind fun t221 => (if t221 = true then ((L2_own.f x214000 x214001).bind fun bt222 => ((congr_Has.f k bt222.1 bt222.2 x2).bind fun t224 => (if t217 = 0 then ((R2_LeavesOf.f x214000 x214001 x2).bind fun t225 => (L2_CongrOf.j1 k (t224 != t225) x214000 x214001 x215000 x215001)) else (L2_CongrOf.j1 k (t224 != false) x214000 x214001 x215000 x215001)))) else (L2_CongrOf.j1 k true x214000 x214001 x215000 x215001))))))
def L2_CongrOf.j1 : Nat → Bool → Int → Int → Int → Int → Option (Bool)
 | 0, _, _, _, _, _ => none
 | k + 1, x43, x214000, x214001, x215000, x215001 => if x43 = true then (none) else ((R2_TwoCongrs.f k x214000 x214001 x215000 x215001).bind fun t226 => ((L2_own.f x214000 x214001).bind fun bt227 => ((L2_own.f x215000 x215001).bind fun bt229 => ((congr_Within.f k bt227.1 bt227.2 bt229.1 bt229.2).bind fun bt231 => (if t226 > 0 then ((L2_coded.f bt231.2 t226).bind fun t233 => (if t233 = true then (some (!bt231.1)) else (none))) else ((R2_FirstOf.f k x214000 x214001 5).bind fun t234 => (L2_CongrOf.l0 k bt231.1 bt231.2 t234 true 0 x215000 x215001)))))))
def L2_CongrOf.l0 : Nat → Bool → Option Int → List Int → Bool → Int → Int → Int → Option (Bool)
 | 0, _, _, _, _, _, _, _ => none
 | k + 1, x9, x10, x11, x12, x13, x215000, x215001 => if x13 < (x11.length : Int) then (if x12 = true then (if 0 ≤ x13 then ((R2_LeavesOf.f x215000 x215001 (rd x11 x13)).bind fun t238 => (L2_CongrOf.l0 k x9 x10 x11 t238 (wrap64 (x13 + 1)) x215000 x215001)) else (none)) else (L2_CongrOf.l0 k x9 x10 x11 false (wrap64 (x13 + 1)) x215000 x215001)) else (if x10.isNone = true then (some (x9 == x12)) else (none))
end
def L2_CongrOf.f (k : Nat) (a0_0 : Int) (a0_1 : Int) (a1_0 : Int) (a1_1 : Int) (a2 : Int) : Option (Bool) := (L2_sixth.f k).bind fun t215 => (if t215 = true then ((R2_Far.f a2 1152921504606846976).bind fun t216 => (L2_CongrOf.j0 k a2 t215 t216 a0_0 a0_1 a1_0 a1_1)) else (L2_CongrOf.j0 k a2 t215 true a0_0 a0_1 a1_0 a1_1))
theorem L2_CongrOf.mono_l : ∀ k, (∀ y0 y1 y2 y3 y4 y5 y6, LeO (L2_CongrOf.j0 k y0 y1 y2 y3 y4 y5 y6) (L2_CongrOf.j0 (k + 1) y0 y1 y2 y3 y4 y5 y6)) ∧ (∀ y0 y1 y2 y3 y4, LeO (L2_CongrOf.j1 k y0 y1 y2 y3 y4) (L2_CongrOf.j1 (k + 1) y0 y1 y2 y3 y4)) ∧ (∀ y0 y1 y2 y3 y4 y5 y6, LeO (L2_CongrOf.l0 k y0 y1 y2 y3 y4 y5 y6) (L2_CongrOf.l0 (k + 1) y0 y1 y2 y3 y4 y5 y6))
 | 0 => ⟨fun _ _ _ _ _ _ _ r h => by simp [L2_CongrOf.j0] at h, fun _ _ _ _ _ r h => by simp [L2_CongrOf.j1] at h, fun _ _ _ _ _ _ _ r h => by simp [L2_CongrOf.l0] at h⟩
 | k + 1 => by
  obtain ⟨ih0, ih1, ih2⟩ := L2_CongrOf.mono_l k
  refine ⟨?_, ?_, ?_⟩
  ·intro y0 y1 y2 y3 y4 y5 y6
   unfold L2_CongrOf.j0
   repeat' first
   | (with_reducible exact ih0 _ _ _ _ _ _ _)
   | (with_reducible exact ih1 _ _ _ _ _)
   | (with_reducible exact ih2 _ _ _ _ _ _ _)
   | (with_reducible exact L2_sixth.mono _)
   | (with_reducible exact R2_CongrError.mono _ _ _)
   | (with_reducible exact R2_FirstOf.mono _ _ _ _)
   | (with_reducible exact R2_TwoCongrs.mono _ _ _ _ _)
   | (with_reducible exact congr_Has.mono _ _ _ _)
   | (with_reducible exact congr_Valid.mono _ _ _)
   | (with_reducible exact congr_Within.mono _ _ _ _ _)
   | (with_reducible exact LeO.refl _)
   | (with_reducible exact LeO.none _)
   | (with_reducible refine LeO.ite ?_ ?_)
   | (with_reducible refine LeO.bind ?_ (fun _ => ?_))
   | exact ih0 _ _ _ _ _ _ _
   | exact ih1 _ _ _ _ _
   | exact ih2 _ _ _ _ _ _ _
   | exact L2_sixth.mono _
   | exact R2_CongrError.mono _ _ _
   | exact R2_FirstOf.mono _ _ _ _
   | exact R2_TwoCongrs.mono _ _ _ _ _
   | exact congr_Has.mono _ _ _ _
   | exact congr_Valid.mono _ _ _
   | exact congr_Within.mono _ _ _ _ _
   | exact LeO.none _
   | refine LeO.ite ?_ ?_
   | refine LeO.bind ?_ (fun _ => ?_)
  ·intro y0 y1 y2 y3 y4
   unfold L2_CongrOf.j1
   repeat' first
   | (with_reducible exact ih0 _ _ _ _ _ _ _)
   | (with_reducible exact ih1 _ _ _ _ _)
   | (with_reducible exact ih2 _ _ _ _ _ _ _)
   | (with_reducible exact L2_sixth.mono _)
   | (with_reducible exact R2_CongrError.mono _ _ _)
   | (with_reducible exact R2_FirstOf.mono _ _ _ _)
   | (with_reducible exact R2_TwoCongrs.mono _ _ _ _ _)
   | (with_reducible exact congr_Has.mono _ _ _ _)
   | (with_reducible exact congr_Valid.mono _ _ _)
   | (with_reducible exact congr_Within.mono _ _ _ _ _)
   | (with_reducible exact LeO.refl _)
   | (with_reducible exact LeO.none _)
   | (with_reducible refine LeO.ite ?_ ?_)
   | (with_reducible refine LeO.bind ?_ (fun _ => ?_))
   | exact ih0 _ _ _ _ _ _ _
   | exact ih1 _ _ _ _ _
   | exact ih2 _ _ _ _ _ _ _
   | exact L2_sixth.mono _
   | exact R2_CongrError.mono _ _ _
   | exact R2_FirstOf.mono _ _ _ _
   | exact R2_TwoCongrs.mono _ _ _ _ _
   | exact congr_Has.mono _ _ _ _
   | exact congr_Valid.mono _ _ _
   | exact congr_Within.mono _ _ _ _ _
   | exact LeO.none _
   | refine LeO.ite ?_ ?_
   | refine LeO.bind ?_ (fun _ => ?_)
  intro y0 y1 y2 y3 y4 y5 y6
  unfold L2_CongrOf.l0
  repeat' first
  | (with_reducible exact ih0 _ _ _ _ _ _ _)
  | (with_reducible exact ih1 _ _ _ _ _)
  | (with_reducible exact ih2 _ _ _ _ _ _ _)
  | (with_reducible exact L2_sixth.mono _)
  | (with_reducible exact R2_CongrError.mono _ _ _)
  | (with_reducible exact R2_FirstOf.mono _ _ _ _)
  | (with_reducible exact R2_TwoCongrs.mono _ _ _ _ _)
  | (with_reducible exact congr_Has.mono _ _ _ _)
  | (with_reducible exact congr_Valid.mono _ _ _)
  | (with_reducible exact congr_Within.mono _ _ _ _ _)
  | (with_reducible exact LeO.refl _)
  | (with_reducible exact LeO.none _)
  | (with_reducible refine LeO.ite ?_ ?_)
  | (with_reducible refine LeO.bind ?_ (fun _ => ?_))
  | exact ih0 _ _ _ _ _ _ _
  | exact ih1 _ _ _ _ _
  | exact ih2 _ _ _ _ _ _ _
  | exact L2_sixth.mono _
  | exact R2_CongrError.mono _ _ _
  | exact R2_FirstOf.mono _ _ _ _
  | exact R2_TwoCongrs.mono _ _ _ _ _
  | exact congr_Has.mono _ _ _ _
  | exact congr_Valid.mono _ _ _
  | exact congr_Within.mono _ _ _ _ _
  | exact LeO.none _
  | refine LeO.ite ?_ ?_
  | refine LeO.bind ?_ (fun _ => ?_)
theorem L2_CongrOf.mono : ∀ a0 a1 a2 a3 a4 k, LeO (L2_CongrOf.f k a0 a1 a2 a3 a4) (L2_CongrOf.f (k + 1) a0 a1 a2 a3 a4) := by
 intro a0 a1 a2 a3 a4 k
 obtain ⟨ih0, ih1, ih2⟩ := L2_CongrOf.mono_l k
 unfold L2_CongrOf.f
 repeat' first
   | (with_reducible exact ih0 _ _ _ _ _ _ _)
   | (with_reducible exact ih1 _ _ _ _ _)
   | (with_reducible exact ih2 _ _ _ _ _ _ _)
   | (with_reducible exact L2_sixth.mono _)
   | (with_reducible exact R2_CongrError.mono _ _ _)
   | (with_reducible exact R2_FirstOf.mono _ _ _ _)
   | (with_reducible exact R2_TwoCongrs.mono _ _ _ _ _)
   | (with_reducible exact congr_Has.mono _ _ _ _)
   | (with_reducible exact congr_Valid.mono _ _ _)
   | (with_reducible exact congr_Within.mono _ _ _ _ _)
   | (with_reducible exact LeO.refl _)
   | (with_reducible exact LeO.none _)
   | (with_reducible refine LeO.ite ?_ ?_)
   | (with_reducible refine LeO.bind ?_ (fun _ => ?_))
   | exact ih0 _ _ _ _ _ _ _
   | exact ih1 _ _ _ _ _
   | exact ih2 _ _ _ _ _ _ _
   | exact L2_sixth.mono _
   | exact R2_CongrError.mono _ _ _
   | exact R2_FirstOf.mono _ _ _ _
   | exact R2_TwoCongrs.mono _ _ _ _ _
   | exact congr_Has.mono _ _ _ _
   | exact congr_Valid.mono _ _ _
   | exact congr_Within.mono _ _ _ _ _
   | exact LeO.none _
   | refine LeO.ite ?_ ?_
   | refine LeO.bind ?_ (fun _ => ?_)
def L2_CongrOf.T8 : Bool × List (List Nat × List Nat) := (true, [([], []), ([0], [0]), ([], []), ([2, 1], [2]), ([1, 3, 3], [1, 3]), ([4], [4]), ([5], [5]), ([5], [5]), ([6, 4, 0, 1, 2, 3, 4, 5, 6], [6]), ([7, 8, 0, 1, 2, 3, 4, 5, 6, 7, 8], [7])])
def L2_CongrOf.B8 : List Nat := [0, 1, 0, 7, 15, 31, 63, 63, 127, 511]
theorem L2_CongrOf.tab8 : rtab .any (opsOf Tryd.f6 8) = L2_CongrOf.T8 := by kernel_rfl
theorem L2_CongrOf.bits8 : waitsOk L2_CongrOf.T8.2 L2_CongrOf.B8 = true := by kernel_rfl
def L2_CongrOf.T16 : Bool × List (List Nat × List Nat) := (true, [([], []), ([0], [0]), ([1], [1]), ([1], [1]), ([1], [1]), ([3, 4, 1], [1, 3, 4]), ([5, 1], [1, 5]), ([2, 6, 1, 1], [1, 2, 6]), ([1, 7], [1, 7]), ([8, 7, 0, 1, 2, 3, 4, 5, 6, 7, 8], [0, 8])])
def L2_CongrOf.B16 : List Nat := [0, 1, 3, 3, 3, 27, 59, 127, 255, 511]
theorem L2_CongrOf.tab16 : rtab .any (opsOf Tryd.f6 16) = L2_CongrOf.T16 := by kernel_rfl
theorem L2_CongrOf.bits16 : waitsOk L2_CongrOf.T16.2 L2_CongrOf.B16 = true := by kernel_rfl
set_option maxHeartbeats 8000000 in
set_option maxRecDepth 100000 in
theorem L2_CongrOf.calls [EA] (k : Nat) (a0_0 : Int) (a0_1 : Int) (a1_0 : Int) (a1_1 : Int) (a2 : Int) (r : Bool) (w : World) (h : L2_CongrOf.f k a0_0 a0_1 a1_0 a1_1 a2 = some r) (h2_ : ErrAt 2 1 w) (h3_ : ErrAt 3 0 w) (h9_ : ErrAll w) :
  Calls Tryd.prog 6 #[.agg #[.int .i64 a0_0, .int .i64 a0_1], .agg #[.int .i64 a1_0, .int .i64 a1_1], .int .i64 a2] w fun e w' => e = .returned (.bool r) ∧ Below w.heap.size w w' := by
 have hE2 := am h2_
 clear h2_
 have hE3 := am h3_
 clear h3_
 have hE9 := am h9_
 clear h9_
 have hu32 := Tryd.underlying32
 have hu28 := Tryd.underlying28
 have HB := am (Below.refl w.heap.size w)
 have H : ((L2_sixth.f k).bind fun t215 => (if t215 = true then ((R2_Far.f a2 1152921504606846976).bind fun t216 => (L2_CongrOf.j0 k a2 t215 t216 a0_0 a0_1 a1_0 a1_1)) else (L2_CongrOf.j0 k a2 t215 true a0_0 a0_1 a1_0 a1_1))) = some r := h
 clear h
 replace H := Option.bind_eq_some_iff.mp H
 obtain ⟨t215, A40, H⟩ := H
 replace H : (if t215 = true then ((R2_Far.f a2 1152921504606846976).bind fun t216 => (L2_CongrOf.j0 k a2 t215 t216 a0_0 a0_1 a1_0 a1_1)) else (L2_CongrOf.j0 k a2 t215 true a0_0 a0_1 a1_0 a1_1)) = some r := H
 have A4 := am A40
 clear A40
 have HC5 := am H
 clear H
 go_enter Tryd.func6, Tryd.ntmps6
 go_upto_region 2 with (first | ((with_reducible refine gate_dst (N := 3) rfl ?_); refine box_event ?hg (N := 3) ?hd (cs := #[.int .i64 a0_0, .int .i64 a0_1]) (t := 32) ?hr ?_; (case hd => rfl); (case hg => rfl); (case hr => first | (go_simp; done) | (go_simp; rfl)); intro gb213 hg w6 hbox hb; have n0_ := am (below_step pw hb); have n1_ := am (hbox); have n2_ := am ((by rw [hg]; exact (below_size pw) : w.heap.size ≤ gb213)); have n3_ := am ((by rw [hg]; exact (below_size pw) : w.heap.size ≤ gb213)); clear HB; have HB := n0_; have BK213 := n1_; have GW213 := n2_; have GE213 := n3_; clear n0_ n1_ n2_ n3_; clear hb hbox hg) | ((with_reducible refine gate_dst (N := 4) rfl ?_); refine box_event ?hg (N := 4) ?hd (cs := #[.int .i64 a1_0, .int .i64 a1_1]) (t := 32) ?hr ?_; (case hd => rfl); (case hg => rfl); (case hr => first | (go_simp; done) | (go_simp; rfl)); intro gb214 hg w7 hbox hb; have n0_ := bb BK213 hb; have n1_ := am (below_step pw hb); have n2_ := am (hbox); have n3_ := am ((by rw [hg]; exact (below_size pw) : w.heap.size ≤ gb214)); have n4_ := am ((by rw [hg]; exact (below_size pw) : w.heap.size ≤ gb214)); have n5_ := am ((by rw [hg]; exact Nat.ne_of_lt (blk_lt pk) : gb213 ≠ gb214)); have n6_ := am ((by rw [hg]; exact Nat.ne_of_gt (blk_lt pk) : gb214 ≠ gb213)); clear BK213; clear HB; have BK213 := n0_; have HB := n1_; have BK214 := n2_; have GW214 := n3_; have GE214 := n4_; have NB213_214 := n5_; have NB214_213 := n6_; clear n0_ n1_ n2_ n3_ n4_ n5_ n6_; clear hb hbox hg) | ((with_reducible refine gate_callee (f := 18) rfl ?_); refine goesL_ (some 14) rfl rfl Tryd.func18 kk rfl #[] rfl (by (try simp only [List.map_toArray, List.map_cons, List.map_nil]); first | done | rfl | (simp only [List.length_drop, List.length_take]; rfl)) ?_; (with_reducible refine (L2_sixth.calls k  t215 _ A4.out (am (ErrAt.below hE2.out pw)).out (am (ErrAt.below hE3.out pw)).out).mono ?_); rintro e w8 ⟨rfl, hb⟩; refine ⟨_, rfl, ?_⟩; have n0_ := bb BK213 hb; have n1_ := bb BK214 hb; have n2_ := am (below_step pw hb); clear BK213; clear BK214; clear HB; have BK213 := n0_; have BK214 := n1_; have HB := n2_; clear n0_ n1_ n2_; (try clear hb); (try clear hb2); (try clear hk); (try clear hi)))
 (try simp only [Act.put, List.setIfInBounds_toArray, List.set_cons_zero, List.set_cons_succ])
 go_cut [20] (fun v20 wc => ∃ (kq : Nat) (x20_4 : Bool), v20 = .bool x20_4 ∧ Aside0 (L2_CongrOf.j0 kq a2 t215 x20_4 a0_0 a0_1 a1_0 a1_1 = some r) ∧ Aside0 (kq ≤ k) ∧ Aside0 (wc.heap[gb213]? = some (.cells #[.int .i64 a0_0, .int .i64 a0_1] 32 (0, 0))) ∧ Aside0 (wc.heap[gb214]? = some (.cells #[.int .i64 a1_0, .int .i64 a1_1] 32 (0, 0))) ∧ Aside0 (Below w.heap.size w wc))
 case first =>
  have H := HC5.out
  clear HC5
  by_cases c9 : t215 = true
  ·subst c9
   have H1 : ((R2_Far.f a2 1152921504606846976).bind fun t216 => (L2_CongrOf.j0 k a2 true t216 a0_0 a0_1 a1_0 a1_1)) = some r := by rw [if_pos rfl] at H; exact H
   clear H
   have H := H1
   clear H1
   replace H := Option.bind_eq_some_iff.mp H
   obtain ⟨t216, A100, H⟩ := H
   replace H : (L2_CongrOf.j0 k a2 true t216 a0_0 a0_1 a1_0 a1_1) = some r := H
   have A10 := am A100
   clear A100
   have H' := am H
   clear H
   go_wp2_with (first | (go_at_call 27; (with_reducible refine (R2_Far.calls a2 1152921504606846976 t216 _ A10.out).mono ?_); rintro e w' ⟨rfl, ⟨nd, rfl⟩⟩))
   go_meet
   case rel => exact ⟨_, (t216), pr, H', ⟨by first | omega | exact Nat.le_refl _⟩, ⟨by (with_reducible repeat (first | refine blk_drewN ?_ _ | refine blk_drew ?_ | refine blk_alloc ?_ _)); exact BK213.out⟩, ⟨by (with_reducible repeat (first | refine blk_drewN ?_ _ | refine blk_drew ?_ | refine blk_alloc ?_ _)); exact BK214.out⟩, ⟨pw⟩⟩
  replace c9 := Bool.eq_false_iff.mpr c9
  subst c9
  have H1 : (L2_CongrOf.j0 k a2 false true a0_0 a0_1 a1_0 a1_1) = some r := by rw [if_neg (show ¬ (false = true) by decide)] at H; exact H
  clear H
  have H := H1
  clear H1
  have H' := am H
  clear H
  go_wp2
  go_meet
  case rel => exact ⟨_, (true), pr, H', ⟨by first | omega | exact Nat.le_refl _⟩, ⟨by (with_reducible repeat (first | refine blk_drewN ?_ _ | refine blk_drew ?_ | refine blk_alloc ?_ _)); exact BK213.out⟩, ⟨by (with_reducible repeat (first | refine blk_drewN ?_ _ | refine blk_drew ?_ | refine blk_alloc ?_ _)); exact BK214.out⟩, ⟨pw⟩⟩
 clear HC5
 try clear c1
 try clear p2
 try clear c6
 try clear c9
 obtain ⟨kq, x20_4, rfl, HA, HJ4, BK213, BK214, HB⟩ := hcut
 cases kq with
 | zero => exact absurd HA.out (by simp [L2_CongrOf.j0])
 | succ kj4 =>
  have H := HA.out
  clear HA
  simp only [L2_CongrOf.j0] at H
  by_cases c11 : x20_4 = true
  ·subst c11
   have H1 : (some t215) = some r := by rw [if_pos rfl] at H; exact H
   clear H
   have H := H1
   clear H1
   obtain rfl := Option.some.inj H
   go_wp2
   go_ret
   exact ⟨pe, pw⟩
  replace c11 := Bool.eq_false_iff.mpr c11
  subst c11
  have H1 : ((R2_CongrError.f kj4 a0_0 a0_1).bind fun t217 => ((L2_own.f a0_0 a0_1).bind fun bt218 => ((congr_Valid.f kj4 bt218.1 bt218.2).bind fun t220 => ((L2_coded.f t220 t217).bind fun t221 => (if t221 = true then ((L2_own.f a0_0 a0_1).bind fun bt222 => ((congr_Has.f kj4 bt222.1 bt222.2 a2).bind fun t224 => (if t217 = 0 then ((R2_LeavesOf.f a0_0 a0_1 a2).bind fun t225 => (L2_CongrOf.j1 kj4 (t224 != t225) a0_0 a0_1 a1_0 a1_1)) else (L2_CongrOf.j1 kj4 (t224 != false) a0_0 a0_1 a1_0 a1_1)))) else (L2_CongrOf.j1 kj4 true a0_0 a0_1 a1_0 a1_1)))))) = some r := by rw [if_neg (show ¬ (false = true) by decide)] at H; exact H
  clear H
  have H := H1
  clear H1
  replace H := Option.bind_eq_some_iff.mp H
  obtain ⟨t217, A120, H⟩ := H
  replace H : ((L2_own.f a0_0 a0_1).bind fun bt218 => ((congr_Valid.f kj4 bt218.1 bt218.2).bind fun t220 => ((L2_coded.f t220 t217).bind fun t221 => (if t221 = true then ((L2_own.f a0_0 a0_1).bind fun bt222 => ((congr_Has.f kj4 bt222.1 bt222.2 a2).bind fun t224 => (if t217 = 0 then ((R2_LeavesOf.f a0_0 a0_1 a2).bind fun t225 => (L2_CongrOf.j1 kj4 (t224 != t225) a0_0 a0_1 a1_0 a1_1)) else (L2_CongrOf.j1 kj4 (t224 != false) a0_0 a0_1 a1_0 a1_1)))) else (L2_CongrOf.j1 kj4 true a0_0 a0_1 a1_0 a1_1))))) = some r := H
  have A12 := am A120
  clear A120
  have HC13 := am H
  clear H
  have hnb14 := NB213_214.out
  have hnc14 := NB214_213.out
  have hcz15_0 : wc.cell? ⟨gb213, 0, none⟩ = some (.int .i64 a0_0) := bc BK213 0
  have hcz15_1 : wc.cell? ⟨gb213, 1, none⟩ = some (.int .i64 a0_1) := bc BK213 1
  have hfz15_0 := blk_frozen BK213.out 0
  have hfz15_1 := blk_frozen BK213.out 1
  go_upto_region 5 with (first | ((with_reducible refine gate_callee (f := 28) rfl ?_); refine goesL_ (some 23) rfl rfl Tryd.func28 kk rfl #[.agg #[.int .i64 a0_0, .int .i64 a0_1]] rfl (by (try simp only [List.map_toArray, List.map_cons, List.map_nil]); first | done | rfl | (simp only [List.length_drop, List.length_take]; rfl)) ?_; (with_reducible refine (R2_CongrError.calls kj4 a0_0 a0_1 t217 _ A12.out).mono ?_); rintro e w16 ⟨rfl, hb⟩; refine ⟨_, rfl, ?_⟩; have n0_ := bb BK213 hb; have n1_ := bb BK214 hb; have n2_ := am (below_step pw hb); clear BK213; clear BK214; clear HB; have BK213 := n0_; have BK214 := n1_; have HB := n2_; clear n0_ n1_ n2_; (try clear hb); (try clear hb2); (try clear hk); (try clear hi)))
  (try simp only [Act.put, List.setIfInBounds_toArray, List.set_cons_zero, List.set_cons_succ])
  go_cut [43] (fun v43 wc => ∃ (kq : Nat) (x43_12 : Bool), v43 = .bool x43_12 ∧ Aside0 (L2_CongrOf.j1 kq x43_12 a0_0 a0_1 a1_0 a1_1 = some r) ∧ Aside0 (kq ≤ kj4) ∧ Aside0 (wc.heap[gb213]? = some (.cells #[.int .i64 a0_0, .int .i64 a0_1] 32 (0, 0))) ∧ Aside0 (wc.heap[gb214]? = some (.cells #[.int .i64 a1_0, .int .i64 a1_1] 32 (0, 0))) ∧ Aside0 (Below w.heap.size w wc))
  case first =>
   have H := HC13.out
   clear HC13
   replace H := Option.bind_eq_some_iff.mp H
   obtain ⟨⟨t218, t219⟩, A170, H⟩ := H
   replace H : ((congr_Valid.f kj4 t218 t219).bind fun t220 => ((L2_coded.f t220 t217).bind fun t221 => (if t221 = true then ((L2_own.f a0_0 a0_1).bind fun bt222 => ((congr_Has.f kj4 bt222.1 bt222.2 a2).bind fun t224 => (if t217 = 0 then ((R2_LeavesOf.f a0_0 a0_1 a2).bind fun t225 => (L2_CongrOf.j1 kj4 (t224 != t225) a0_0 a0_1 a1_0 a1_1)) else (L2_CongrOf.j1 kj4 (t224 != false) a0_0 a0_1 a1_0 a1_1)))) else (L2_CongrOf.j1 kj4 true a0_0 a0_1 a1_0 a1_1)))) = some r := H
   have A17 := am A170
   clear A170
   replace H := Option.bind_eq_some_iff.mp H
   obtain ⟨t220, A180, H⟩ := H
   replace H : ((L2_coded.f t220 t217).bind fun t221 => (if t221 = true then ((L2_own.f a0_0 a0_1).bind fun bt222 => ((congr_Has.f kj4 bt222.1 bt222.2 a2).bind fun t224 => (if t217 = 0 then ((R2_LeavesOf.f a0_0 a0_1 a2).bind fun t225 => (L2_CongrOf.j1 kj4 (t224 != t225) a0_0 a0_1 a1_0 a1_1)) else (L2_CongrOf.j1 kj4 (t224 != false) a0_0 a0_1 a1_0 a1_1)))) else (L2_CongrOf.j1 kj4 true a0_0 a0_1 a1_0 a1_1))) = some r := H
   have A18 := am A180
   clear A180
   replace H := Option.bind_eq_some_iff.mp H
   obtain ⟨t221, A190, H⟩ := H
   replace H : (if t221 = true then ((L2_own.f a0_0 a0_1).bind fun bt222 => ((congr_Has.f kj4 bt222.1 bt222.2 a2).bind fun t224 => (if t217 = 0 then ((R2_LeavesOf.f a0_0 a0_1 a2).bind fun t225 => (L2_CongrOf.j1 kj4 (t224 != t225) a0_0 a0_1 a1_0 a1_1)) else (L2_CongrOf.j1 kj4 (t224 != false) a0_0 a0_1 a1_0 a1_1)))) else (L2_CongrOf.j1 kj4 true a0_0 a0_1 a1_0 a1_1)) = some r := H
   have A19 := am A190
   clear A190
   by_cases c20 : t221 = true
   ·subst c20
    have H1 : ((L2_own.f a0_0 a0_1).bind fun bt222 => ((congr_Has.f kj4 bt222.1 bt222.2 a2).bind fun t224 => (if t217 = 0 then ((R2_LeavesOf.f a0_0 a0_1 a2).bind fun t225 => (L2_CongrOf.j1 kj4 (t224 != t225) a0_0 a0_1 a1_0 a1_1)) else (L2_CongrOf.j1 kj4 (t224 != false) a0_0 a0_1 a1_0 a1_1)))) = some r := by rw [if_pos rfl] at H; exact H
    clear H
    have H := H1
    clear H1
    replace H := Option.bind_eq_some_iff.mp H
    obtain ⟨⟨t222, t223⟩, A210, H⟩ := H
    replace H : ((congr_Has.f kj4 t222 t223 a2).bind fun t224 => (if t217 = 0 then ((R2_LeavesOf.f a0_0 a0_1 a2).bind fun t225 => (L2_CongrOf.j1 kj4 (t224 != t225) a0_0 a0_1 a1_0 a1_1)) else (L2_CongrOf.j1 kj4 (t224 != false) a0_0 a0_1 a1_0 a1_1))) = some r := H
    have A21 := am A210
    clear A210
    replace H := Option.bind_eq_some_iff.mp H
    obtain ⟨t224, A220, H⟩ := H
    replace H : (if t217 = 0 then ((R2_LeavesOf.f a0_0 a0_1 a2).bind fun t225 => (L2_CongrOf.j1 kj4 (t224 != t225) a0_0 a0_1 a1_0 a1_1)) else (L2_CongrOf.j1 kj4 (t224 != false) a0_0 a0_1 a1_0 a1_1)) = some r := H
    have A22 := am A220
    clear A220
    by_cases c23 : t217 = 0
    ·rw [if_pos c23] at H
     have c23b0 : (t217 == 0) = true := beq_iff_eq.mpr c23
     have c23b1 : (t217 != 0) = false := bne_eq_false_iff_eq.mpr c23
     clear c23
     (first | rw [c23b0] | (simp only [i64_w, i32_w]; rw [c23b0]) | skip)
     replace H := Option.bind_eq_some_iff.mp H
     obtain ⟨t225, A240, H⟩ := H
     replace H : (L2_CongrOf.j1 kj4 (t224 != t225) a0_0 a0_1 a1_0 a1_1) = some r := H
     have A24 := am A240
     clear A240
     have H' := am H
     clear H
     have hnb25 := NB213_214.out
     have hnc25 := NB214_213.out
     have hcz26_0 : w16.cell? ⟨gb213, 0, none⟩ = some (.int .i64 a0_0) := bc BK213 0
     have hcz26_1 : w16.cell? ⟨gb213, 1, none⟩ = some (.int .i64 a0_1) := bc BK213 1
     have hfz26_0 := blk_frozen BK213.out 0
     have hfz26_1 := blk_frozen BK213.out 1
     go_wp2_with (first | ((with_reducible refine gate_callee (f := 21) rfl ?_); refine goesL_ (some 25) rfl rfl Tryd.func21 kk rfl #[.agg #[.int .i64 a0_0, .int .i64 a0_1]] rfl (by (try simp only [List.map_toArray, List.map_cons, List.map_nil]); first | done | rfl | (simp only [List.length_drop, List.length_take]; rfl)) ?_; (with_reducible refine (L2_own.calls a0_0 a0_1 t218 t219 _ A17.out).mono ?_); rintro e w27 ⟨rfl, hb⟩; refine ⟨_, rfl, ?_⟩; have n0_ := bb BK213 hb; have n1_ := bb BK214 hb; have n2_ := am (below_step pw hb); clear BK213; clear BK214; clear HB; have BK213 := n0_; have BK214 := n1_; have HB := n2_; clear n0_ n1_ n2_; (try clear hb); (try clear hb2); (try clear hk); (try clear hi)) | ((with_reducible refine gate_callee (f := 29) rfl ?_); refine goesL_ (some 26) rfl rfl Tryd.func29 kk rfl #[.agg #[.int .i64 t218, .int .i64 t219]] rfl (by (try simp only [List.map_toArray, List.map_cons, List.map_nil]); first | done | rfl | (simp only [List.length_drop, List.length_take]; rfl)) ?_; (with_reducible refine (congr_Valid.calls kj4 t218 t219 t220 _ A18.out (am (ErrAt.below hE2.out pw)).out (am (ErrAt.below hE3.out pw)).out).mono ?_); rintro e w28 ⟨rfl, hb⟩; refine ⟨_, rfl, ?_⟩; have n0_ := bb BK213 hb; have n1_ := bb BK214 hb; have n2_ := am (below_step pw hb); clear BK213; clear BK214; clear HB; have BK213 := n0_; have BK214 := n1_; have HB := n2_; clear n0_ n1_ n2_; (try clear hb); (try clear hb2); (try clear hk); (try clear hi); (try simp only [errW_none, errW_some]); have CA19 := fun (W : World) (hE9_ : ErrAll W) => L2_coded.calls t220 t217 true W A19.out hE9_; try simp only [errW_none, errW_some] at CA19) | (go_at_call 14; (with_reducible refine (CA19 _ (ErrAll.below hE9.out pw)).mono ?_); rintro e w29 ⟨rfl, hb⟩; have n0_ := bb BK213 hb; have n1_ := bb BK214 hb; have n2_ := am (below_step pw hb); clear BK213; clear BK214; clear HB; have BK213 := n0_; have BK214 := n1_; have HB := n2_; clear n0_ n1_ n2_; (try clear hb); (try clear hb2); (try clear hk); (try clear hi); have hcz30_0 : w29.cell? ⟨gb213, 0, none⟩ = some (.int .i64 a0_0) := bc BK213 0; have hcz30_1 : w29.cell? ⟨gb213, 1, none⟩ = some (.int .i64 a0_1) := bc BK213 1; have hfz30_0 := blk_frozen BK213.out 0; have hfz30_1 := blk_frozen BK213.out 1) | (go_at_call 21; (with_reducible refine (L2_own.calls a0_0 a0_1 t222 t223 _ A21.out).mono ?_); rintro e w31 ⟨rfl, hb⟩; have n0_ := bb BK213 hb; have n1_ := bb BK214 hb; have n2_ := am (below_step pw hb); clear BK213; clear BK214; clear HB; have BK213 := n0_; have BK214 := n1_; have HB := n2_; clear n0_ n1_ n2_; (try clear hb); (try clear hb2); (try clear hk); (try clear hi)) | (go_at_call 30; (with_reducible refine (congr_Has.calls kj4 t222 t223 a2 t224 _ A22.out (am (ErrAt.below hE2.out pw)).out (am (ErrAt.below hE3.out pw)).out).mono ?_); rintro e w32 ⟨rfl, hb⟩; have n0_ := bb BK213 hb; have n1_ := bb BK214 hb; have n2_ := am (below_step pw hb); clear BK213; clear BK214; clear HB; have BK213 := n0_; have BK214 := n1_; have HB := n2_; clear n0_ n1_ n2_; (try clear hb); (try clear hb2); (try clear hk); (try clear hi); have hcz33_0 : w32.cell? ⟨gb213, 0, none⟩ = some (.int .i64 a0_0) := bc BK213 0; have hcz33_1 : w32.cell? ⟨gb213, 1, none⟩ = some (.int .i64 a0_1) := bc BK213 1; have hfz33_0 := blk_frozen BK213.out 0; have hfz33_1 := blk_frozen BK213.out 1) | (go_at_call 23; (with_reducible refine (R2_LeavesOf.calls a0_0 a0_1 a2 t225 _ A24.out).mono ?_); rintro e w34 ⟨rfl, hb⟩; have n0_ := bb BK213 hb; have n1_ := bb BK214 hb; have n2_ := am (below_step pw hb); clear BK213; clear BK214; clear HB; have BK213 := n0_; have BK214 := n1_; have HB := n2_; clear n0_ n1_ n2_; (try clear hb); (try clear hb2); (try clear hk); (try clear hi)))
     go_meet
     case rel => exact ⟨_, ((t224 != t225)), pr, H', ⟨by have := HJ4.out; first | omega | exact Nat.le_refl _⟩, ⟨by (with_reducible repeat (first | refine blk_drewN ?_ _ | refine blk_drew ?_ | refine blk_alloc ?_ _)); exact BK213.out⟩, ⟨by (with_reducible repeat (first | refine blk_drewN ?_ _ | refine blk_drew ?_ | refine blk_alloc ?_ _)); exact BK214.out⟩, ⟨pw⟩⟩
    rw [if_neg c23] at H
    have c23b0 : (t217 == 0) = false := beq_eq_false_iff_ne.mpr c23
    have c23b1 : (t217 != 0) = true := bne_iff_ne.mpr c23
    (first | rw [c23b0] | (simp only [i64_w, i32_w]; rw [c23b0]) | skip)
    have H' := am H
    clear H
    have hnb35 := NB213_214.out
    have hnc35 := NB214_213.out
    have hcz36_0 : w16.cell? ⟨gb213, 0, none⟩ = some (.int .i64 a0_0) := bc BK213 0
    have hcz36_1 : w16.cell? ⟨gb213, 1, none⟩ = some (.int .i64 a0_1) := bc BK213 1
    have hfz36_0 := blk_frozen BK213.out 0
    have hfz36_1 := blk_frozen BK213.out 1
    go_wp2_with (first | ((with_reducible refine gate_callee (f := 21) rfl ?_); refine goesL_ (some 25) rfl rfl Tryd.func21 kk rfl #[.agg #[.int .i64 a0_0, .int .i64 a0_1]] rfl (by (try simp only [List.map_toArray, List.map_cons, List.map_nil]); first | done | rfl | (simp only [List.length_drop, List.length_take]; rfl)) ?_; (with_reducible refine (L2_own.calls a0_0 a0_1 t218 t219 _ A17.out).mono ?_); rintro e w37 ⟨rfl, hb⟩; refine ⟨_, rfl, ?_⟩; have n0_ := bb BK213 hb; have n1_ := bb BK214 hb; have n2_ := am (below_step pw hb); clear BK213; clear BK214; clear HB; have BK213 := n0_; have BK214 := n1_; have HB := n2_; clear n0_ n1_ n2_; (try clear hb); (try clear hb2); (try clear hk); (try clear hi)) | ((with_reducible refine gate_callee (f := 29) rfl ?_); refine goesL_ (some 26) rfl rfl Tryd.func29 kk rfl #[.agg #[.int .i64 t218, .int .i64 t219]] rfl (by (try simp only [List.map_toArray, List.map_cons, List.map_nil]); first | done | rfl | (simp only [List.length_drop, List.length_take]; rfl)) ?_; (with_reducible refine (congr_Valid.calls kj4 t218 t219 t220 _ A18.out (am (ErrAt.below hE2.out pw)).out (am (ErrAt.below hE3.out pw)).out).mono ?_); rintro e w38 ⟨rfl, hb⟩; refine ⟨_, rfl, ?_⟩; have n0_ := bb BK213 hb; have n1_ := bb BK214 hb; have n2_ := am (below_step pw hb); clear BK213; clear BK214; clear HB; have BK213 := n0_; have BK214 := n1_; have HB := n2_; clear n0_ n1_ n2_; (try clear hb); (try clear hb2); (try clear hk); (try clear hi); (try simp only [errW_none, errW_some]); have CA19 := fun (W : World) (hE9_ : ErrAll W) => L2_coded.calls t220 t217 true W A19.out hE9_; try simp only [errW_none, errW_some] at CA19) | (go_at_call 14; (with_reducible refine (CA19 _ (ErrAll.below hE9.out pw)).mono ?_); rintro e w39 ⟨rfl, hb⟩; have n0_ := bb BK213 hb; have n1_ := bb BK214 hb; have n2_ := am (below_step pw hb); clear BK213; clear BK214; clear HB; have BK213 := n0_; have BK214 := n1_; have HB := n2_; clear n0_ n1_ n2_; (try clear hb); (try clear hb2); (try clear hk); (try clear hi); have hcz40_0 : w39.cell? ⟨gb213, 0, none⟩ = some (.int .i64 a0_0) := bc BK213 0; have hcz40_1 : w39.cell? ⟨gb213, 1, none⟩ = some (.int .i64 a0_1) := bc BK213 1; have hfz40_0 := blk_frozen BK213.out 0; have hfz40_1 := blk_frozen BK213.out 1) | (go_at_call 21; (with_reducible refine (L2_own.calls a0_0 a0_1 t222 t223 _ A21.out).mono ?_); rintro e w41 ⟨rfl, hb⟩; have n0_ := bb BK213 hb; have n1_ := bb BK214 hb; have n2_ := am (below_step pw hb); clear BK213; clear BK214; clear HB; have BK213 := n0_; have BK214 := n1_; have HB := n2_; clear n0_ n1_ n2_; (try clear hb); (try clear hb2); (try clear hk); (try clear hi)) | (go_at_call 30; (with_reducible refine (congr_Has.calls kj4 t222 t223 a2 t224 _ A22.out (am (ErrAt.below hE2.out pw)).out (am (ErrAt.below hE3.out pw)).out).mono ?_); rintro e w42 ⟨rfl, hb⟩; have n0_ := bb BK213 hb; have n1_ := bb BK214 hb; have n2_ := am (below_step pw hb); clear BK213; clear BK214; clear HB; have BK213 := n0_; have BK214 := n1_; have HB := n2_; clear n0_ n1_ n2_; (try clear hb); (try clear hb2); (try clear hk); (try clear hi)))
    go_meet
    case rel => exact ⟨_, ((t224 != false)), pr, H', ⟨by have := HJ4.out; first | omega | exact Nat.le_refl _⟩, ⟨by (with_reducible repeat (first | refine blk_drewN ?_ _ | refine blk_drew ?_ | refine blk_alloc ?_ _)); exact BK213.out⟩, ⟨by (with_reducible repeat (first | refine blk_drewN ?_ _ | refine blk_drew ?_ | refine blk_alloc ?_ _)); exact BK214.out⟩, ⟨pw⟩⟩
   replace c20 := Bool.eq_false_iff.mpr c20
   subst c20
   have H1 : (L2_CongrOf.j1 kj4 true a0_0 a0_1 a1_0 a1_1) = some r := by rw [if_neg (show ¬ (false = true) by decide)] at H; exact H
   clear H
   have H := H1
   clear H1
   have H' := am H
   clear H
   have hnb43 := NB213_214.out
   have hnc43 := NB214_213.out
   have hcz44_0 : w16.cell? ⟨gb213, 0, none⟩ = some (.int .i64 a0_0) := bc BK213 0
   have hcz44_1 : w16.cell? ⟨gb213, 1, none⟩ = some (.int .i64 a0_1) := bc BK213 1
   have hfz44_0 := blk_frozen BK213.out 0
   have hfz44_1 := blk_frozen BK213.out 1
   go_wp2_with (first | ((with_reducible refine gate_callee (f := 21) rfl ?_); refine goesL_ (some 25) rfl rfl Tryd.func21 kk rfl #[.agg #[.int .i64 a0_0, .int .i64 a0_1]] rfl (by (try simp only [List.map_toArray, List.map_cons, List.map_nil]); first | done | rfl | (simp only [List.length_drop, List.length_take]; rfl)) ?_; (with_reducible refine (L2_own.calls a0_0 a0_1 t218 t219 _ A17.out).mono ?_); rintro e w45 ⟨rfl, hb⟩; refine ⟨_, rfl, ?_⟩; have n0_ := bb BK213 hb; have n1_ := bb BK214 hb; have n2_ := am (below_step pw hb); clear BK213; clear BK214; clear HB; have BK213 := n0_; have BK214 := n1_; have HB := n2_; clear n0_ n1_ n2_; (try clear hb); (try clear hb2); (try clear hk); (try clear hi)) | ((with_reducible refine gate_callee (f := 29) rfl ?_); refine goesL_ (some 26) rfl rfl Tryd.func29 kk rfl #[.agg #[.int .i64 t218, .int .i64 t219]] rfl (by (try simp only [List.map_toArray, List.map_cons, List.map_nil]); first | done | rfl | (simp only [List.length_drop, List.length_take]; rfl)) ?_; (with_reducible refine (congr_Valid.calls kj4 t218 t219 t220 _ A18.out (am (ErrAt.below hE2.out pw)).out (am (ErrAt.below hE3.out pw)).out).mono ?_); rintro e w46 ⟨rfl, hb⟩; refine ⟨_, rfl, ?_⟩; have n0_ := bb BK213 hb; have n1_ := bb BK214 hb; have n2_ := am (below_step pw hb); clear BK213; clear BK214; clear HB; have BK213 := n0_; have BK214 := n1_; have HB := n2_; clear n0_ n1_ n2_; (try clear hb); (try clear hb2); (try clear hk); (try clear hi); (try simp only [errW_none, errW_some]); have CA19 := fun (W : World) (hE9_ : ErrAll W) => L2_coded.calls t220 t217 false W A19.out hE9_; try simp only [errW_none, errW_some] at CA19) | (go_at_call 14; (with_reducible refine (CA19 _ (ErrAll.below hE9.out pw)).mono ?_); rintro e w47 ⟨rfl, hb⟩; have n0_ := bb BK213 hb; have n1_ := bb BK214 hb; have n2_ := am (below_step pw hb); clear BK213; clear BK214; clear HB; have BK213 := n0_; have BK214 := n1_; have HB := n2_; clear n0_ n1_ n2_; (try clear hb); (try clear hb2); (try clear hk); (try clear hi)))
   go_meet
   case rel => exact ⟨_, (true), pr, H', ⟨by have := HJ4.out; first | omega | exact Nat.le_refl _⟩, ⟨by (with_reducible repeat (first | refine blk_drewN ?_ _ | refine blk_drew ?_ | refine blk_alloc ?_ _)); exact BK213.out⟩, ⟨by (with_reducible repeat (first | refine blk_drewN ?_ _ | refine blk_drew ?_ | refine blk_alloc ?_ _)); exact BK214.out⟩, ⟨pw⟩⟩
  clear HC13
  try clear c1
  try clear c2
  try clear p2
  try clear c3
  try clear c4
  try clear c6
  try clear c9
  try clear c11
  try clear c14
  try clear c18
  try clear c20
  try clear c21
  try clear c23
  try clear c23b0
  try clear c23b1
  try clear c25
  try clear c28
  try clear c29
  try clear c35
  try clear c43
  try clear hcz15_0
  try clear hcz15_1
  try clear hcz26_0
  try clear hcz26_1
  try clear hcz30_0
  try clear hcz30_1
  try clear hcz33_0
  try clear hcz33_1
  try clear hcz36_0
  try clear hcz36_1
  try clear hcz40_0
  try clear hcz40_1
  try clear hcz44_0
  try clear hcz44_1
  try clear hfz15_0
  try clear hfz15_1
  try clear hfz26_0
  try clear hfz26_1
  try clear hfz30_0
  try clear hfz30_1
  try clear hfz33_0
  try clear hfz33_1
  try clear hfz36_0
  try clear hfz36_1
  try clear hfz40_0
  try clear hfz40_1
  try clear hfz44_0
  try clear hfz44_1
  try clear p2
  obtain ⟨kq, x43_12, rfl, HA, HJ12, BK213, BK214, HB⟩ := hcut
  cases kq with
  | zero => exact absurd HA.out (by simp [L2_CongrOf.j1])
  | succ kj12 =>
   have H := HA.out
   clear HA
   simp only [L2_CongrOf.j1] at H
   by_cases c48 : x43_12 = true
   ·subst c48
    have H1 : (none) = some r := by rw [if_pos rfl] at H; exact H
    clear H
    have H := H1
    clear H1
    exact absurd H (by simp)
   replace c48 := Bool.eq_false_iff.mpr c48
   subst c48
   have H1 : ((R2_TwoCongrs.f kj12 a0_0 a0_1 a1_0 a1_1).bind fun t226 => ((L2_own.f a0_0 a0_1).bind fun bt227 => ((L2_own.f a1_0 a1_1).bind fun bt229 => ((congr_Within.f kj12 bt227.1 bt227.2 bt229.1 bt229.2).bind fun bt231 => (if t226 > 0 then ((L2_coded.f bt231.2 t226).bind fun t233 => (if t233 = true then (some (!bt231.1)) else (none))) else ((R2_FirstOf.f kj12 a0_0 a0_1 5).bind fun t234 => (L2_CongrOf.l0 kj12 bt231.1 bt231.2 t234 true 0 a1_0 a1_1))))))) = some r := by rw [if_neg (show ¬ (false = true) by decide)] at H; exact H
   clear H
   have H := H1
   clear H1
   replace H := Option.bind_eq_some_iff.mp H
   obtain ⟨t226, A490, H⟩ := H
   replace H : ((L2_own.f a0_0 a0_1).bind fun bt227 => ((L2_own.f a1_0 a1_1).bind fun bt229 => ((congr_Within.f kj12 bt227.1 bt227.2 bt229.1 bt229.2).bind fun bt231 => (if t226 > 0 then ((L2_coded.f bt231.2 t226).bind fun t233 => (if t233 = true then (some (!bt231.1)) else (none))) else ((R2_FirstOf.f kj12 a0_0 a0_1 5).bind fun t234 => (L2_CongrOf.l0 kj12 bt231.1 bt231.2 t234 true 0 a1_0 a1_1)))))) = some r := H
   have A49 := am A490
   clear A490
   replace H := Option.bind_eq_some_iff.mp H
   obtain ⟨⟨t227, t228⟩, A500, H⟩ := H
   replace H : ((L2_own.f a1_0 a1_1).bind fun bt229 => ((congr_Within.f kj12 t227 t228 bt229.1 bt229.2).bind fun bt231 => (if t226 > 0 then ((L2_coded.f bt231.2 t226).bind fun t233 => (if t233 = true then (some (!bt231.1)) else (none))) else ((R2_FirstOf.f kj12 a0_0 a0_1 5).bind fun t234 => (L2_CongrOf.l0 kj12 bt231.1 bt231.2 t234 true 0 a1_0 a1_1))))) = some r := H
   have A50 := am A500
   clear A500
   replace H := Option.bind_eq_some_iff.mp H
   obtain ⟨⟨t229, t230⟩, A510, H⟩ := H
   replace H : ((congr_Within.f kj12 t227 t228 t229 t230).bind fun bt231 => (if t226 > 0 then ((L2_coded.f bt231.2 t226).bind fun t233 => (if t233 = true then (some (!bt231.1)) else (none))) else ((R2_FirstOf.f kj12 a0_0 a0_1 5).bind fun t234 => (L2_CongrOf.l0 kj12 bt231.1 bt231.2 t234 true 0 a1_0 a1_1)))) = some r := H
   have A51 := am A510
   clear A510
   replace H := Option.bind_eq_some_iff.mp H
   obtain ⟨⟨t231, t232⟩, A520, H⟩ := H
   replace H : (if t226 > 0 then ((L2_coded.f t232 t226).bind fun t233 => (if t233 = true then (some (!t231)) else (none))) else ((R2_FirstOf.f kj12 a0_0 a0_1 5).bind fun t234 => (L2_CongrOf.l0 kj12 t231 t232 t234 true 0 a1_0 a1_1))) = some r := H
   have A52 := am A520
   clear A520
   by_cases c53 : t226 > 0
   ·rw [if_pos c53] at H
    have c53b0 : decide (0 < t226) = true := decide_eq_true c53
    clear c53
    replace H := Option.bind_eq_some_iff.mp H
    obtain ⟨t233, A540, H⟩ := H
    replace H : (if t233 = true then (some (!t231)) else (none)) = some r := H
    have A54 := am A540
    clear A540
    by_cases c55 : t233 = true
    ·subst c55
     have H1 : (some (!t231)) = some r := by rw [if_pos rfl] at H; exact H
     clear H
     have H := H1
     clear H1
     obtain rfl := Option.some.inj H
     have hnb56 := NB213_214.out
     have hnc56 := NB214_213.out
     have hcz57_0 : wc.cell? ⟨gb213, 0, none⟩ = some (.int .i64 a0_0) := bc BK213 0
     have hcz57_1 : wc.cell? ⟨gb213, 1, none⟩ = some (.int .i64 a0_1) := bc BK213 1
     have hfz57_0 := blk_frozen BK213.out 0
     have hfz57_1 := blk_frozen BK213.out 1
     have hcz58_0 : wc.cell? ⟨gb214, 0, none⟩ = some (.int .i64 a1_0) := bc BK214 0
     have hcz58_1 : wc.cell? ⟨gb214, 1, none⟩ = some (.int .i64 a1_1) := bc BK214 1
     have hfz58_0 := blk_frozen BK214.out 0
     have hfz58_1 := blk_frozen BK214.out 1
     try go_wp2_with (first | ((with_reducible refine gate_callee (f := 19) rfl ?_); refine goesL_ (some 46) rfl rfl Tryd.func19 kk rfl #[.agg #[.int .i64 a0_0, .int .i64 a0_1], .agg #[.int .i64 a1_0, .int .i64 a1_1]] rfl (by (try simp only [List.map_toArray, List.map_cons, List.map_nil]); first | done | rfl | (simp only [List.length_drop, List.length_take]; rfl)) ?_; (with_reducible refine (R2_TwoCongrs.calls kj12 a0_0 a0_1 a1_0 a1_1 t226 _ A49.out).mono ?_); rintro e w59 ⟨rfl, hb⟩; refine ⟨_, rfl, ?_⟩; have n0_ := bb BK213 hb; have n1_ := bb BK214 hb; have n2_ := am (below_step pw hb); clear BK213; clear BK214; clear HB; have BK213 := n0_; have BK214 := n1_; have HB := n2_; clear n0_ n1_ n2_; (try clear hb); (try clear hb2); (try clear hk); (try clear hi)))
     have n0_ := am (blk_drew BK213.out)
     have n1_ := am (blk_drew BK214.out)
     have n2_ := am (below_drew1 HB.out)
     clear BK213 BK214 HB
     revert n0_ n1_ n2_
     intro BK213 BK214 HB
     refine start_ (n := 10) (S := fun w' => w'.cell? ⟨gb213, 0, none⟩ = some (.int .i64 a0_0) ∧ w'.cell? ⟨gb213, 1, none⟩ = some (.int .i64 a0_1) ∧ w'.cell? ⟨gb214, 0, none⟩ = some (.int .i64 a1_0) ∧ w'.cell? ⟨gb214, 1, none⟩ = some (.int .i64 a1_1)) (ds := []) #[false, false, false, false, false, false, false, false, false, false] kk rfl rfl ⟨bc BK213 0, bc BK213 1, bc BK214 0, bc BK214 1⟩ (fun hHeld => ?_); refine with_tabW L2_CongrOf.tab8 L2_CongrOf.bits8 (fun HT_ HW_ => ?_)
     generalize w59.drew = w60 at BK213 BK214 HB hHeld ⊢
     refine take_ (i := 0) (N := some 48) (v := ?_) (a' := ?_) #[true, false, false, false, false, false, false, false, false, false] rfl rfl (take_ofW HT_.out HW_.out kk) (fun _ _ _ h => h) (Or.inl ⟨by rfl, ?_⟩) hHeld ?_ ?_
     rotate_left
     ·rintro w' ⟨s0, s1, s2, s3⟩
      go_simp
      with_reducible rfl
     rotate_left
     ·simp only [Act.put, List.setIfInBounds_toArray, List.set_cons_zero, List.set_cons_succ, i64_w, i32_w]
      rfl
     refine take_ (i := 2) (N := some 50) (v := ?_) (a' := ?_) #[true, false, true, false, false, false, false, false, false, false] rfl rfl (take_ofW HT_.out HW_.out kk) (fun _ _ _ h => h) (Or.inl ⟨by rfl, ?_⟩) hHeld ?_ ?_
     rotate_left
     ·rintro w' ⟨s0, s1, s2, s3⟩
      go_simp
      with_reducible rfl
     rotate_left
     ·simp only [Act.put, List.setIfInBounds_toArray, List.set_cons_zero, List.set_cons_succ, i64_w, i32_w]
      rfl
     refine one_ (i := 1) (N := some 49) #[true, true, true, false, false, false, false, false, false, false] rfl rfl (one_of HT_.out kk) (by decide) (fun K hK => ?_)
     refine goes_ Tryd.func21 kk rfl #[.agg #[.int .i64 a0_0, .int .i64 a0_1]] (by rfl) rfl rfl (by (try simp only [List.map_toArray, List.map_cons, List.map_nil]); first | done | rfl | (simp only [List.length_drop, List.length_take]; rfl)) ?_
     with_reducible refine (L2_own.calls a0_0 a0_1 t227 t228 _ A50.out).mono ?_
     rintro e w61 ⟨rfl, hb⟩
     refine ⟨_, rfl, ?_⟩
     have n0_ := bb BK213 hb
     have n1_ := bb BK214 hb
     have n2_ := am (below_step pw hb)
     clear BK213 BK214 HB
     revert n0_ n1_ n2_
     intro BK213 BK214 HB
     (try clear hb)
     (try clear hb2)
     (try clear hk)
     (try clear hi)
     refine hK.out _ _ ⟨bc BK213 0, bc BK213 1, bc BK214 0, bc BK214 1⟩ (fun hHeld => ?_)
     clear hK K
     refine norm_ (a' := ?_) ?_ ?_
     rotate_left
     ·show Act.put _ (some 49) _ = _
      simp only [Act.put, List.setIfInBounds_toArray, List.set_cons_zero, List.set_cons_succ, i64_w, i32_w]
      rfl
     refine one_ (i := 3) (N := some 51) #[true, true, true, true, false, false, false, false, false, false] rfl rfl (one_of HT_.out kk) (by decide) (fun K hK => ?_)
     refine goes_ Tryd.func21 kk rfl #[.agg #[.int .i64 a1_0, .int .i64 a1_1]] (by rfl) rfl rfl (by (try simp only [List.map_toArray, List.map_cons, List.map_nil]); first | done | rfl | (simp only [List.length_drop, List.length_take]; rfl)) ?_
     with_reducible refine (L2_own.calls a1_0 a1_1 t229 t230 _ A51.out).mono ?_
     rintro e w62 ⟨rfl, hb⟩
     refine ⟨_, rfl, ?_⟩
     have n0_ := bb BK213 hb
     have n1_ := bb BK214 hb
     have n2_ := am (below_step pw hb)
     clear BK213 BK214 HB
     revert n0_ n1_ n2_
     intro BK213 BK214 HB
     (try clear hb)
     (try clear hb2)
     (try clear hk)
     (try clear hi)
     refine hK.out _ _ ⟨bc BK213 0, bc BK213 1, bc BK214 0, bc BK214 1⟩ (fun hHeld => ?_)
     clear hK K
     refine norm_ (a' := ?_) ?_ ?_
     rotate_left
     ·show Act.put _ (some 51) _ = _
      simp only [Act.put, List.setIfInBounds_toArray, List.set_cons_zero, List.set_cons_succ, i64_w, i32_w]
      rfl
     refine one_ (i := 4) (N := some 52) #[true, true, true, true, true, false, false, false, false, false] rfl rfl (one_of HT_.out kk) (by decide) (fun K hK => ?_)
     refine goes_ Tryd.func31 kk rfl #[.agg #[.int .i64 t227, .int .i64 t228], .agg #[.int .i64 t229, .int .i64 t230]] (by rfl) rfl rfl (by (try simp only [List.map_toArray, List.map_cons, List.map_nil]); first | done | rfl | (simp only [List.length_drop, List.length_take]; rfl)) ?_
     with_reducible refine (congr_Within.calls kj12 t227 t228 t229 t230 t231 t232 _ A52.out (am (ErrAt.below hE2.out pw)).out (am (ErrAt.below hE3.out pw)).out).mono ?_
     rintro e w63 ⟨rfl, hb⟩
     refine ⟨_, rfl, ?_⟩
     have n0_ := bb BK213 hb
     have n1_ := bb BK214 hb
     have n2_ := am (below_step pw hb)
     clear BK213 BK214 HB
     revert n0_ n1_ n2_
     intro BK213 BK214 HB
     (try clear hb)
     (try clear hb2)
     (try clear hk)
     (try clear hi)
     (try simp only [errW_none, errW_some])
     refine hK.out _ _ ⟨bc BK213 0, bc BK213 1, bc BK214 0, bc BK214 1⟩ (fun hHeld => ?_)
     clear hK K
     refine norm_ (a' := ?_) ?_ ?_
     rotate_left
     ·show Act.put _ (some 52) _ = _
      simp only [Act.put, List.setIfInBounds_toArray, List.set_cons_zero, List.set_cons_succ, i64_w, i32_w]
      rfl
     refine pure_ (i := 5) (N := some 47) (v := ?_) (a' := ?_) #[true, true, true, true, true, true, false, false, false, false] rfl rfl (any_of HT_.out kk) (fun _ _ _ h => h) (Or.inl ⟨by rfl, ?_⟩) ?_ ?_
     rotate_left
     ·intro w'
      go_simp
      with_reducible rfl
     rotate_left
     ·simp only [Act.put, List.setIfInBounds_toArray, List.set_cons_zero, List.set_cons_succ, i64_w, i32_w]
      rfl
     refine pure_ (i := 6) (N := some 53) (v := ?_) (a' := ?_) #[true, true, true, true, true, true, true, false, false, false] rfl rfl (any_of HT_.out kk) (fun _ _ _ h => h) (Or.inl ⟨by rfl, ?_⟩) ?_ ?_
     rotate_left
     ·intro w'
      go_simp
      with_reducible rfl
     rotate_left
     ·simp only [Act.put, List.setIfInBounds_toArray, List.set_cons_zero, List.set_cons_succ, i64_w, i32_w]
      rfl
     refine pure_ (i := 7) (N := some 54) (v := ?_) (a' := ?_) #[true, true, true, true, true, true, true, true, false, false] rfl rfl (any_of HT_.out kk) (fun _ _ _ h => h) (Or.inl ⟨by rfl, ?_⟩) ?_ ?_
     rotate_left
     ·intro w'
      go_simp
      with_reducible rfl
     rotate_left
     ·simp only [Act.put, List.setIfInBounds_toArray, List.set_cons_zero, List.set_cons_succ, i64_w, i32_w]
      rfl
     refine pure_ (i := 8) (N := some 9) (v := ?_) (a' := ?_) #[true, true, true, true, true, true, true, true, true, false] rfl rfl (any_of HT_.out kk) (fun _ _ _ h => h) (Or.inl ⟨by rfl, ?_⟩) ?_ ?_
     rotate_left
     ·intro w'
      go_simp
      with_reducible rfl
     rotate_left
     ·simp only [Act.put, List.setIfInBounds_toArray, List.set_cons_zero, List.set_cons_succ, i64_w, i32_w]
      rfl
     refine pure_ (i := 9) (N := some 10) (v := ?_) (a' := ?_) #[true, true, true, true, true, true, true, true, true, true] rfl rfl (any_of HT_.out kk) (fun _ _ _ h => h) (Or.inl ⟨by rfl, ?_⟩) ?_ ?_
     rotate_left
     ·intro w'
      go_simp
      with_reducible rfl
     rotate_left
     ·simp only [Act.put, List.setIfInBounds_toArray, List.set_cons_zero, List.set_cons_succ, i64_w, i32_w]
      rfl
     refine done_ (done_of HT_.out kk) ?_
     have CA54 := fun (W : World) (hE9_ : ErrAll W) => L2_coded.calls t232 t226 true W A54.out hE9_
     try simp only [errW_none, errW_some] at CA54
     try go_wp2_with (first | (go_at_call 14; (with_reducible refine (CA54 _ (ErrAll.below hE9.out pw)).mono ?_); rintro e w64 ⟨rfl, hb⟩; have n0_ := bb BK213 hb; have n1_ := bb BK214 hb; have n2_ := am (below_step pw hb); clear BK213; clear BK214; clear HB; have BK213 := n0_; have BK214 := n1_; have HB := n2_; clear n0_ n1_ n2_; (try clear hb); (try clear hb2); (try clear hk); (try clear hi)))
     go_ret
     exact ⟨pe, pw⟩
    replace c55 := Bool.eq_false_iff.mpr c55
    subst c55
    have H1 : (none) = some r := by rw [if_neg (show ¬ (false = true) by decide)] at H; exact H
    clear H
    have H := H1
    clear H1
    exact absurd H (by simp)
   rw [if_neg c53] at H
   have c53b0 : decide (0 < t226) = false := decide_eq_false c53
   clear c53
   replace H := Option.bind_eq_some_iff.mp H
   obtain ⟨t234, A650, H⟩ := H
   replace H : (L2_CongrOf.l0 kj12 t231 t232 t234 true 0 a1_0 a1_1) = some r := H
   have A65 := am A650
   clear A650
   have H' := am H
   clear H
   have hnb66 := NB213_214.out
   have hnc66 := NB214_213.out
   have hcz67_0 : wc.cell? ⟨gb213, 0, none⟩ = some (.int .i64 a0_0) := bc BK213 0
   have hcz67_1 : wc.cell? ⟨gb213, 1, none⟩ = some (.int .i64 a0_1) := bc BK213 1
   have hfz67_0 := blk_frozen BK213.out 0
   have hfz67_1 := blk_frozen BK213.out 1
   have hcz68_0 : wc.cell? ⟨gb214, 0, none⟩ = some (.int .i64 a1_0) := bc BK214 0
   have hcz68_1 : wc.cell? ⟨gb214, 1, none⟩ = some (.int .i64 a1_1) := bc BK214 1
   have hfz68_0 := blk_frozen BK214.out 0
   have hfz68_1 := blk_frozen BK214.out 1
   try go_wp2_with (first | ((with_reducible refine gate_callee (f := 19) rfl ?_); refine goesL_ (some 46) rfl rfl Tryd.func19 kk rfl #[.agg #[.int .i64 a0_0, .int .i64 a0_1], .agg #[.int .i64 a1_0, .int .i64 a1_1]] rfl (by (try simp only [List.map_toArray, List.map_cons, List.map_nil]); first | done | rfl | (simp only [List.length_drop, List.length_take]; rfl)) ?_; (with_reducible refine (R2_TwoCongrs.calls kj12 a0_0 a0_1 a1_0 a1_1 t226 _ A49.out).mono ?_); rintro e w69 ⟨rfl, hb⟩; refine ⟨_, rfl, ?_⟩; have n0_ := bb BK213 hb; have n1_ := bb BK214 hb; have n2_ := am (below_step pw hb); clear BK213; clear BK214; clear HB; have BK213 := n0_; have BK214 := n1_; have HB := n2_; clear n0_ n1_ n2_; (try clear hb); (try clear hb2); (try clear hk); (try clear hi)))
   have n0_ := am (blk_drew BK213.out)
   have n1_ := am (blk_drew BK214.out)
   have n2_ := am (below_drew1 HB.out)
   clear BK213 BK214 HB
   revert n0_ n1_ n2_
   intro BK213 BK214 HB
   refine start_ (n := 10) (S := fun w' => w'.cell? ⟨gb213, 0, none⟩ = some (.int .i64 a0_0) ∧ w'.cell? ⟨gb213, 1, none⟩ = some (.int .i64 a0_1) ∧ w'.cell? ⟨gb214, 0, none⟩ = some (.int .i64 a1_0) ∧ w'.cell? ⟨gb214, 1, none⟩ = some (.int .i64 a1_1)) (ds := []) #[false, false, false, false, false, false, false, false, false, false] kk rfl rfl ⟨bc BK213 0, bc BK213 1, bc BK214 0, bc BK214 1⟩ (fun hHeld => ?_); refine with_tabW L2_CongrOf.tab8 L2_CongrOf.bits8 (fun HT_ HW_ => ?_)
   generalize w69.drew = w70 at BK213 BK214 HB hHeld ⊢
   refine take_ (i := 0) (N := some 48) (v := ?_) (a' := ?_) #[true, false, false, false, false, false, false, false, false, false] rfl rfl (take_ofW HT_.out HW_.out kk) (fun _ _ _ h => h) (Or.inl ⟨by rfl, ?_⟩) hHeld ?_ ?_
   rotate_left
   ·rintro w' ⟨s0, s1, s2, s3⟩
    go_simp
    with_reducible rfl
   rotate_left
   ·simp only [Act.put, List.setIfInBounds_toArray, List.set_cons_zero, List.set_cons_succ, i64_w, i32_w]
    rfl
   refine take_ (i := 2) (N := some 50) (v := ?_) (a' := ?_) #[true, false, true, false, false, false, false, false, false, false] rfl rfl (take_ofW HT_.out HW_.out kk) (fun _ _ _ h => h) (Or.inl ⟨by rfl, ?_⟩) hHeld ?_ ?_
   rotate_left
   ·rintro w' ⟨s0, s1, s2, s3⟩
    go_simp
    with_reducible rfl
   rotate_left
   ·simp only [Act.put, List.setIfInBounds_toArray, List.set_cons_zero, List.set_cons_succ, i64_w, i32_w]
    rfl
   refine one_ (i := 1) (N := some 49) #[true, true, true, false, false, false, false, false, false, false] rfl rfl (one_of HT_.out kk) (by decide) (fun K hK => ?_)
   refine goes_ Tryd.func21 kk rfl #[.agg #[.int .i64 a0_0, .int .i64 a0_1]] (by rfl) rfl rfl (by (try simp only [List.map_toArray, List.map_cons, List.map_nil]); first | done | rfl | (simp only [List.length_drop, List.length_take]; rfl)) ?_
   with_reducible refine (L2_own.calls a0_0 a0_1 t227 t228 _ A50.out).mono ?_
   rintro e w71 ⟨rfl, hb⟩
   refine ⟨_, rfl, ?_⟩
   have n0_ := bb BK213 hb
   have n1_ := bb BK214 hb
   have n2_ := am (below_step pw hb)
   clear BK213 BK214 HB
   revert n0_ n1_ n2_
   intro BK213 BK214 HB
   (try clear hb)
   (try clear hb2)
   (try clear hk)
   (try clear hi)
   refine hK.out _ _ ⟨bc BK213 0, bc BK213 1, bc BK214 0, bc BK214 1⟩ (fun hHeld => ?_)
   clear hK K
   refine norm_ (a' := ?_) ?_ ?_
   rotate_left
   ·show Act.put _ (some 49) _ = _
    simp only [Act.put, List.setIfInBounds_toArray, List.set_cons_zero, List.set_cons_succ, i64_w, i32_w]
    rfl
   refine one_ (i := 3) (N := some 51) #[true, true, true, true, false, false, false, false, false, false] rfl rfl (one_of HT_.out kk) (by decide) (fun K hK => ?_)
   refine goes_ Tryd.func21 kk rfl #[.agg #[.int .i64 a1_0, .int .i64 a1_1]] (by rfl) rfl rfl (by (try simp only [List.map_toArray, List.map_cons, List.map_nil]); first | done | rfl | (simp only [List.length_drop, List.length_take]; rfl)) ?_
   with_reducible refine (L2_own.calls a1_0 a1_1 t229 t230 _ A51.out).mono ?_
   rintro e w72 ⟨rfl, hb⟩
   refine ⟨_, rfl, ?_⟩
   have n0_ := bb BK213 hb
   have n1_ := bb BK214 hb
   have n2_ := am (below_step pw hb)
   clear BK213 BK214 HB
   revert n0_ n1_ n2_
   intro BK213 BK214 HB
   (try clear hb)
   (try clear hb2)
   (try clear hk)
   (try clear hi)
   refine hK.out _ _ ⟨bc BK213 0, bc BK213 1, bc BK214 0, bc BK214 1⟩ (fun hHeld => ?_)
   clear hK K
   refine norm_ (a' := ?_) ?_ ?_
   rotate_left
   ·show Act.put _ (some 51) _ = _
    simp only [Act.put, List.setIfInBounds_toArray, List.set_cons_zero, List.set_cons_succ, i64_w, i32_w]
    rfl
   refine one_ (i := 4) (N := some 52) #[true, true, true, true, true, false, false, false, false, false] rfl rfl (one_of HT_.out kk) (by decide) (fun K hK => ?_)
   refine goes_ Tryd.func31 kk rfl #[.agg #[.int .i64 t227, .int .i64 t228], .agg #[.int .i64 t229, .int .i64 t230]] (by rfl) rfl rfl (by (try simp only [List.map_toArray, List.map_cons, List.map_nil]); first | done | rfl | (simp only [List.length_drop, List.length_take]; rfl)) ?_
   with_reducible refine (congr_Within.calls kj12 t227 t228 t229 t230 t231 t232 _ A52.out (am (ErrAt.below hE2.out pw)).out (am (ErrAt.below hE3.out pw)).out).mono ?_
   rintro e w73 ⟨rfl, hb⟩
   refine ⟨_, rfl, ?_⟩
   have n0_ := bb BK213 hb
   have n1_ := bb BK214 hb
   have n2_ := am (below_step pw hb)
   clear BK213 BK214 HB
   revert n0_ n1_ n2_
   intro BK213 BK214 HB
   (try clear hb)
   (try clear hb2)
   (try clear hk)
   (try clear hi)
   (try simp only [errW_none, errW_some])
   refine hK.out _ _ ⟨bc BK213 0, bc BK213 1, bc BK214 0, bc BK214 1⟩ (fun hHeld => ?_)
   clear hK K
   refine norm_ (a' := ?_) ?_ ?_
   rotate_left
   ·show Act.put _ (some 52) _ = _
    simp only [Act.put, List.setIfInBounds_toArray, List.set_cons_zero, List.set_cons_succ, i64_w, i32_w]
    rfl
   refine pure_ (i := 5) (N := some 47) (v := ?_) (a' := ?_) #[true, true, true, true, true, true, false, false, false, false] rfl rfl (any_of HT_.out kk) (fun _ _ _ h => h) (Or.inl ⟨by rfl, ?_⟩) ?_ ?_
   rotate_left
   ·intro w'
    go_simp
    with_reducible rfl
   rotate_left
   ·simp only [Act.put, List.setIfInBounds_toArray, List.set_cons_zero, List.set_cons_succ, i64_w, i32_w]
    rfl
   refine pure_ (i := 6) (N := some 53) (v := ?_) (a' := ?_) #[true, true, true, true, true, true, true, false, false, false] rfl rfl (any_of HT_.out kk) (fun _ _ _ h => h) (Or.inl ⟨by rfl, ?_⟩) ?_ ?_
   rotate_left
   ·intro w'
    go_simp
    with_reducible rfl
   rotate_left
   ·simp only [Act.put, List.setIfInBounds_toArray, List.set_cons_zero, List.set_cons_succ, i64_w, i32_w]
    rfl
   refine pure_ (i := 7) (N := some 54) (v := ?_) (a' := ?_) #[true, true, true, true, true, true, true, true, false, false] rfl rfl (any_of HT_.out kk) (fun _ _ _ h => h) (Or.inl ⟨by rfl, ?_⟩) ?_ ?_
   rotate_left
   ·intro w'
    go_simp
    with_reducible rfl
   rotate_left
   ·simp only [Act.put, List.setIfInBounds_toArray, List.set_cons_zero, List.set_cons_succ, i64_w, i32_w]
    rfl
   refine pure_ (i := 8) (N := some 9) (v := ?_) (a' := ?_) #[true, true, true, true, true, true, true, true, true, false] rfl rfl (any_of HT_.out kk) (fun _ _ _ h => h) (Or.inl ⟨by rfl, ?_⟩) ?_ ?_
   rotate_left
   ·intro w'
    go_simp
    with_reducible rfl
   rotate_left
   ·simp only [Act.put, List.setIfInBounds_toArray, List.set_cons_zero, List.set_cons_succ, i64_w, i32_w]
    rfl
   refine pure_ (i := 9) (N := some 10) (v := ?_) (a' := ?_) #[true, true, true, true, true, true, true, true, true, true] rfl rfl (any_of HT_.out kk) (fun _ _ _ h => h) (Or.inl ⟨by rfl, ?_⟩) ?_ ?_
   rotate_left
   ·intro w'
    go_simp
    with_reducible rfl
   rotate_left
   ·simp only [Act.put, List.setIfInBounds_toArray, List.set_cons_zero, List.set_cons_succ, i64_w, i32_w]
    rfl
   refine done_ (done_of HT_.out kk) ?_
   have hcz74_0 : w73.cell? ⟨gb213, 0, none⟩ = some (.int .i64 a0_0) := bc BK213 0
   have hcz74_1 : w73.cell? ⟨gb213, 1, none⟩ = some (.int .i64 a0_1) := bc BK213 1
   have hfz74_0 := blk_frozen BK213.out 0
   have hfz74_1 := blk_frozen BK213.out 1
   try go_wp2_with (first | ((with_reducible refine gate_callee (f := 26) rfl ?_); refine goesL_ (some 65) rfl rfl Tryd.func26 kk rfl #[.agg #[.int .i64 a0_0, .int .i64 a0_1], .int .i64 5] rfl (by (try simp only [List.map_toArray, List.map_cons, List.map_nil]); first | done | rfl | (simp only [List.length_drop, List.length_take]; rfl)) ?_; (with_reducible refine (R2_FirstOf.calls kj12 a0_0 a0_1 5 t234 _ A65.out).mono ?_); rintro e w75 ⟨v235, rfl, ho0, hb⟩; refine ⟨_, rfl, ?_⟩; have n0_ := am (Kd.R_lower ho0 (below_size pw)); have n1_ := bb BK213 hb; have n2_ := bb BK214 hb; have n3_ := am (below_step pw hb); clear BK213; clear BK214; clear HB; have HO236 := n0_; have BK213 := n1_; have BK214 := n2_; have HB := n3_; clear n0_ n1_ n2_ n3_; (try clear hb); (try clear hb2); (try clear hk); (try clear hi); (try clear ho0)))
   go_loopg [12, 13] kj12 (fun kq v12 v13 w' => ∃ (x12_3 : Bool) (x13_3 : Int), v12 = .bool x12_3 ∧ v13 = .int .i64 x13_3 ∧ Aside0 (L2_CongrOf.l0 kq t231 t232 t234 x12_3 x13_3 a1_0 a1_1 = some r) ∧ Aside0 (kq ≤ kj12) ∧ Aside0 (Kd.R (Kd.int .i64) 3 w' w.heap.size (fun _ => True) v235 t234) ∧ Aside0 (w'.heap[gb213]? = some (.cells #[.int .i64 a0_0, .int .i64 a0_1] 32 (0, 0))) ∧ Aside0 (w'.heap[gb214]? = some (.cells #[.int .i64 a1_0, .int .i64 a1_1] 32 (0, 0))) ∧ Aside0 (Below w.heap.size w w'))
   case atStart => exact ⟨(true), (0), pr, pr, H', ⟨Nat.le_refl _⟩, ⟨by (with_reducible repeat (first | apply Kd.R_alloc | apply Kd.R_drewN | apply Kd.R_drew)); exact HO236.out⟩, ⟨by (with_reducible repeat (first | refine blk_drewN ?_ _ | refine blk_drew ?_ | refine blk_alloc ?_ _)); exact BK213.out⟩, ⟨by (with_reducible repeat (first | refine blk_drewN ?_ _ | refine blk_drew ?_ | refine blk_alloc ?_ _)); exact BK214.out⟩, ⟨pw⟩⟩
   case round =>
    clear H'
    try clear c1
    try clear c2
    try clear p2
    try clear c3
    try clear c4
    try clear c5
    try clear c6
    try clear c9
    try clear c11
    try clear c14
    try clear c18
    try clear c19
    try clear c20
    try clear c21
    try clear c23
    try clear c23b0
    try clear c23b1
    try clear c25
    try clear c26
    try clear c28
    try clear c29
    try clear c31
    try clear c35
    try clear c43
    try clear c48
    try clear c53
    try clear c53b0
    try clear c55
    try clear c56
    try clear c66
    try clear hcz15_0
    try clear hcz15_1
    try clear hcz26_0
    try clear hcz26_1
    try clear hcz30_0
    try clear hcz30_1
    try clear hcz33_0
    try clear hcz33_1
    try clear hcz36_0
    try clear hcz36_1
    try clear hcz40_0
    try clear hcz40_1
    try clear hcz44_0
    try clear hcz44_1
    try clear hcz57_0
    try clear hcz57_1
    try clear hcz58_0
    try clear hcz58_1
    try clear hcz67_0
    try clear hcz67_1
    try clear hcz68_0
    try clear hcz68_1
    try clear hcz74_0
    try clear hcz74_1
    try clear hfz15_0
    try clear hfz15_1
    try clear hfz26_0
    try clear hfz26_1
    try clear hfz30_0
    try clear hfz30_1
    try clear hfz33_0
    try clear hfz33_1
    try clear hfz36_0
    try clear hfz36_1
    try clear hfz40_0
    try clear hfz40_1
    try clear hfz44_0
    try clear hfz44_1
    try clear hfz57_0
    try clear hfz57_1
    try clear hfz58_0
    try clear hfz58_1
    try clear hfz67_0
    try clear hfz67_1
    try clear hfz68_0
    try clear hfz68_1
    try clear hfz74_0
    try clear hfz74_1
    try clear p2
    obtain ⟨x12_3, x13_3, rfl, rfl, HA, HK3, HO_11, BK213, BK214, HB⟩ := hrel
    cases gk with
    | zero => exact absurd HA.out (by simp [L2_CongrOf.l0])
    | succ k3 =>
     have H := HA.out
     clear HA
     simp only [L2_CongrOf.l0] at H
     by_cases c76 : x13_3 < (t234.length : Int)
     ·rw [if_pos c76] at H
      have c76b0 : decide (x13_3 < (t234.length : Int)) = true := decide_eq_true c76
      clear c76
      by_cases c77 : x12_3 = true
      ·subst c77
       have H1 : (if 0 ≤ x13_3 then ((R2_LeavesOf.f a1_0 a1_1 (rd t234 x13_3)).bind fun t238 => (L2_CongrOf.l0 k3 t231 t232 t234 t238 (wrap64 (x13_3 + 1)) a1_0 a1_1)) else (none)) = some r := by rw [if_pos rfl] at H; exact H
       clear H
       have H := H1
       clear H1
       by_cases c78 : 0 ≤ x13_3
       ·rw [if_pos c78] at H
        have c78b0 : decide (0 ≤ x13_3) = true := decide_eq_true c78
        clear c78
        replace H := Option.bind_eq_some_iff.mp H
        obtain ⟨t238, A790, H⟩ := H
        replace H : (L2_CongrOf.l0 k3 t231 t232 t234 t238 (wrap64 (x13_3 + 1)) a1_0 a1_1) = some r := H
        have A79 := am A790
        clear A790
        have H' := am H
        clear H
        obtain ⟨Ao80, co80, eo80⟩ := Kd.R_slice HO_11.out
        subst eo80
        try go_wp2
        have n0_ := am (Kd.R_drew HO_11.out)
        have n1_ := am (blk_drew BK213.out)
        have n2_ := am (blk_drew BK214.out)
        have n3_ := am (below_drew1 HB.out)
        clear HO_11 BK213 BK214 HB
        revert n0_ n1_ n2_ n3_
        intro HO_11 BK213 BK214 HB
        have p237 : 0 ≤ (x13_3 : Int) := of_decide_eq_true (by first | (with_reducible assumption) | assumption)
        have q237 : x13_3 < (t234.length : Int) := of_decide_eq_true (by first | (with_reducible assumption) | assumption)
        obtain ⟨ad237, e237, hx237_0⟩ := Kd.at_int (Kd.R_reads' HO_11.out).2.2 x13_3 p237 q237
        cases e237
        replace p237 := eq_true p237
        replace q237 := eq_true q237
        refine start_ (n := 10) (S := fun w' => w'.cell? ⟨gb214, 0, none⟩ = some (.int .i64 a1_0) ∧ w'.cell? ⟨gb214, 1, none⟩ = some (.int .i64 a1_1) ∧ w'.cell? (ad237.add (x13_3).toNat) = some (.int .i64 (rd t234 x13_3))) (ds := []) #[false, false, false, false, false, false, false, false, false, false] kk rfl rfl ⟨bc BK214 0, bc BK214 1, hx237_0⟩ (fun hHeld => ?_); refine with_tabW L2_CongrOf.tab16 L2_CongrOf.bits16 (fun HT_ HW_ => ?_)
        generalize wr.drew = w81 at HO_11 BK213 BK214 HB hx237_0 hHeld ⊢
        refine pure_ (i := 0) (N := some 72) (v := ?_) (a' := ?_) #[true, false, false, false, false, false, false, false, false, false] rfl rfl (any_of HT_.out kk) (fun _ _ _ h => h) (Or.inl ⟨by rfl, ?_⟩) ?_ ?_
        rotate_left
        ·intro w'
         go_simp
         with_reducible rfl
        rotate_left
        ·simp only [Act.put, List.setIfInBounds_toArray, List.set_cons_zero, List.set_cons_succ, i64_w, i32_w]
         rfl
        refine pure_ (i := 1) (N := some 73) (v := ?_) (a' := ?_) #[true, true, false, false, false, false, false, false, false, false] rfl rfl (any_of HT_.out kk) (fun _ _ _ h => h) (Or.inl ⟨by rfl, ?_⟩) ?_ ?_
        rotate_left
        ·intro w'
         go_simp
         with_reducible rfl
        rotate_left
        ·simp only [Act.put, List.setIfInBounds_toArray, List.set_cons_zero, List.set_cons_succ, i64_w, i32_w]
         rfl
        refine pure_ (i := 3) (N := some 75) (v := ?_) (a' := ?_) #[true, true, false, true, false, false, false, false, false, false] rfl rfl (any_of HT_.out kk) (fun _ _ _ h => h) (Or.inl ⟨by rfl, ?_⟩) ?_ ?_
        rotate_left
        ·intro w'
         go_simp
         with_reducible rfl
        rotate_left
        ·simp only [Act.put, List.setIfInBounds_toArray, List.set_cons_zero, List.set_cons_succ, i64_w, i32_w]
         rfl
        refine pure_ (i := 4) (N := some 76) (v := ?_) (a' := ?_) #[true, true, false, true, true, false, false, false, false, false] rfl rfl (any_of HT_.out kk) (fun _ _ _ h => h) (Or.inl ⟨by rfl, ?_⟩) ?_ ?_
        rotate_left
        ·intro w'
         go_simp
         with_reducible rfl
        rotate_left
        ·simp only [Act.put, List.setIfInBounds_toArray, List.set_cons_zero, List.set_cons_succ, i64_w, i32_w]
         rfl
        refine pure_ (i := 5) (N := some 77) (v := ?_) (a' := ?_) #[true, true, false, true, true, true, false, false, false, false] rfl rfl (any_of HT_.out kk) (fun _ _ _ h => h) (Or.inl ⟨by rfl, ?_⟩) ?_ ?_
        rotate_left
        ·intro w'
         go_simp
         with_reducible rfl
        rotate_left
        ·simp only [Act.put, List.setIfInBounds_toArray, List.set_cons_zero, List.set_cons_succ, i64_w, i32_w]
         rfl
        refine take_ (i := 2) (N := some 74) (v := ?_) (a' := ?_) #[true, true, true, true, true, true, false, false, false, false] rfl rfl (take_ofW HT_.out HW_.out kk) (fun _ _ _ h => h) (Or.inl ⟨by rfl, ?_⟩) hHeld ?_ ?_
        rotate_left
        ·rintro w' ⟨s0, s1, s2⟩
         go_simp
         with_reducible rfl
        rotate_left
        ·simp only [Act.put, List.setIfInBounds_toArray, List.set_cons_zero, List.set_cons_succ, i64_w, i32_w]
         rfl
        refine take_ (i := 6) (N := some 78) (v := ?_) (a' := ?_) #[true, true, true, true, true, true, true, false, false, false] rfl rfl (take_ofW HT_.out HW_.out kk) (fun _ _ _ h => h) (Or.inl ⟨by rfl, ?_⟩) hHeld ?_ ?_
        rotate_left
        ·rintro w' ⟨s0, s1, s2⟩
         go_simp
         with_reducible rfl
        rotate_left
        ·simp only [Act.put, List.setIfInBounds_toArray, List.set_cons_zero, List.set_cons_succ, i64_w, i32_w]
         rfl
        refine one_ (i := 7) (N := some 79) #[true, true, true, true, true, true, true, true, false, false] rfl rfl (one_of HT_.out kk) (by decide) (fun K hK => ?_)
        refine goes_ Tryd.func23 kk rfl #[.agg #[.int .i64 a1_0, .int .i64 a1_1], .int .i64 (rd t234 x13_3)] (by rfl) rfl rfl (by (try simp only [List.map_toArray, List.map_cons, List.map_nil]); first | done | rfl | (simp only [List.length_drop, List.length_take]; rfl)) ?_
        with_reducible refine (R2_LeavesOf.calls a1_0 a1_1 (rd t234 x13_3) t238 _ A79.out).mono ?_
        rintro e w82 ⟨rfl, hb⟩
        have HS2_ := (hb.cell (World.block_lt_of_cell? _ _ (hHeld.2.2))).trans (hHeld.2.2)
        refine ⟨_, rfl, ?_⟩
        have n0_ := am (Kd.R_below (by (with_reducible repeat (first | apply Kd.R_alloc | apply Kd.R_drewN | apply Kd.R_drew)); exact HO_11.out) hb)
        have n1_ := bb BK213 hb
        have n2_ := bb BK214 hb
        have n3_ := am (below_step pw hb)
        clear HO_11 BK213 BK214 HB
        revert n0_ n1_ n2_ n3_
        intro HO_11 BK213 BK214 HB
        (try clear hb)
        (try clear hb2)
        (try clear hk)
        (try clear hi)
        refine hK.out _ _ ⟨bc BK214 0, bc BK214 1, HS2_⟩ (fun hHeld => ?_)
        clear hK K
        refine norm_ (a' := ?_) ?_ ?_
        rotate_left
        ·show Act.put _ (some 79) _ = _
         simp only [Act.put, List.setIfInBounds_toArray, List.set_cons_zero, List.set_cons_succ, i64_w, i32_w]
         rfl
        refine pure_ (i := 8) (N := some 80) (v := ?_) (a' := ?_) #[true, true, true, true, true, true, true, true, true, false] rfl rfl (any_of HT_.out kk) (fun _ _ _ h => h) (Or.inl ⟨by rfl, ?_⟩) ?_ ?_
        rotate_left
        ·intro w'
         go_simp
         with_reducible rfl
        rotate_left
        ·simp only [Act.put, List.setIfInBounds_toArray, List.set_cons_zero, List.set_cons_succ, i64_w, i32_w]
         rfl
        refine pure_ (i := 9) (N := some 12) (v := ?_) (a' := ?_) #[true, true, true, true, true, true, true, true, true, true] rfl rfl (any_of HT_.out kk) (fun _ _ _ h => h) (Or.inl ⟨by rfl, ?_⟩) ?_ ?_
        rotate_left
        ·intro w'
         go_simp
         with_reducible rfl
        rotate_left
        ·simp only [Act.put, List.setIfInBounds_toArray, List.set_cons_zero, List.set_cons_succ, i64_w, i32_w]
         rfl
        refine done_ (done_of HT_.out kk) ?_
        try go_wp2
        go_roundg k3
        case measure => have := HJ4.out; have := HJ12.out; have := HK3.out; omega
        case rel => exact ⟨(t238), (wrap64 (x13_3 + 1)), pr, pr, H', ⟨by have := HJ4.out; have := HJ12.out; have := HK3.out; omega⟩, ⟨by (with_reducible repeat (first | apply Kd.R_alloc | apply Kd.R_drewN | apply Kd.R_drew)); exact HO_11.out⟩, ⟨by (with_reducible repeat (first | refine blk_drewN ?_ _ | refine blk_drew ?_ | refine blk_alloc ?_ _)); exact BK213.out⟩, ⟨by (with_reducible repeat (first | refine blk_drewN ?_ _ | refine blk_drew ?_ | refine blk_alloc ?_ _)); exact BK214.out⟩, ⟨pw⟩⟩
       rw [if_neg c78] at H
       exact absurd H (by simp)
      replace c77 := Bool.eq_false_iff.mpr c77
      subst c77
      have H1 : (L2_CongrOf.l0 k3 t231 t232 t234 false (wrap64 (x13_3 + 1)) a1_0 a1_1) = some r := by rw [if_neg (show ¬ (false = true) by decide)] at H; exact H
      clear H
      have H := H1
      clear H1
      have H' := am H
      clear H
      obtain ⟨Ao83, co83, eo83⟩ := Kd.R_slice HO_11.out
      subst eo83
      try go_wp2
      have n0_ := am (Kd.R_drew HO_11.out)
      have n1_ := am (blk_drew BK213.out)
      have n2_ := am (blk_drew BK214.out)
      have n3_ := am (below_drew1 HB.out)
      clear HO_11 BK213 BK214 HB
      revert n0_ n1_ n2_ n3_
      intro HO_11 BK213 BK214 HB
      refine start_ (n := 10) (S := fun w' => True) (ds := []) #[false, false, false, false, false, false, false, false, false, false] kk rfl rfl trivial (fun hHeld => ?_); refine with_tabW L2_CongrOf.tab16 L2_CongrOf.bits16 (fun HT_ HW_ => ?_)
      generalize wr.drew = w84 at HO_11 BK213 BK214 HB hHeld ⊢
      refine pure_ (i := 0) (N := some 72) (v := ?_) (a' := ?_) #[true, false, false, false, false, false, false, false, false, false] rfl rfl (any_of HT_.out kk) (fun _ _ _ h => h) (Or.inl ⟨by rfl, ?_⟩) ?_ ?_
      rotate_left
      ·intro w'
       go_simp
       with_reducible rfl
      rotate_left
      ·simp only [Act.put, List.setIfInBounds_toArray, List.set_cons_zero, List.set_cons_succ, i64_w, i32_w]
       rfl
      refine pure_ (i := 1) (N := some 73) (v := ?_) (a' := ?_) #[true, true, false, false, false, false, false, false, false, false] rfl rfl (any_of HT_.out kk) (fun _ _ _ h => h) (Or.inl ⟨by rfl, ?_⟩) ?_ ?_
      rotate_left
      ·intro w'
       go_simp
       with_reducible rfl
      rotate_left
      ·simp only [Act.put, List.setIfInBounds_toArray, List.set_cons_zero, List.set_cons_succ, i64_w, i32_w]
       rfl
      refine pure_ (i := 2) (N := some 74) (v := undef) (a' := ?_) #[true, true, true, false, false, false, false, false, false, false] rfl rfl (any_of HT_.out kk) (fun _ _ _ h => h) (Or.inr ⟨by rfl, rfl⟩) ?_ ?_
      rotate_left
      ·simp only [Act.put, List.setIfInBounds_toArray, List.set_cons_zero, List.set_cons_succ, i64_w, i32_w]
       rfl
      refine pure_ (i := 3) (N := some 75) (v := undef) (a' := ?_) #[true, true, true, true, false, false, false, false, false, false] rfl rfl (any_of HT_.out kk) (fun _ _ _ h => h) (Or.inr ⟨by rfl, rfl⟩) ?_ ?_
      rotate_left
      ·simp only [Act.put, List.setIfInBounds_toArray, List.set_cons_zero, List.set_cons_succ, i64_w, i32_w]
       rfl
      refine pure_ (i := 4) (N := some 76) (v := undef) (a' := ?_) #[true, true, true, true, true, false, false, false, false, false] rfl rfl (any_of HT_.out kk) (fun _ _ _ h => h) (Or.inr ⟨by rfl, rfl⟩) ?_ ?_
      rotate_left
      ·simp only [Act.put, List.setIfInBounds_toArray, List.set_cons_zero, List.set_cons_succ, i64_w, i32_w]
       rfl
      refine pure_ (i := 5) (N := some 77) (v := undef) (a' := ?_) #[true, true, true, true, true, true, false, false, false, false] rfl rfl (any_of HT_.out kk) (fun _ _ _ h => h) (Or.inr ⟨by rfl, rfl⟩) ?_ ?_
      rotate_left
      ·simp only [Act.put, List.setIfInBounds_toArray, List.set_cons_zero, List.set_cons_succ, i64_w, i32_w]
       rfl
      refine pure_ (i := 6) (N := some 78) (v := undef) (a' := ?_) #[true, true, true, true, true, true, true, false, false, false] rfl rfl (any_of HT_.out kk) (fun _ _ _ h => h) (Or.inr ⟨by rfl, rfl⟩) ?_ ?_
      rotate_left
      ·simp only [Act.put, List.setIfInBounds_toArray, List.set_cons_zero, List.set_cons_succ, i64_w, i32_w]
       rfl
      refine pure_ (i := 7) (N := some 79) (v := undef) (a' := ?_) #[true, true, true, true, true, true, true, true, false, false] rfl rfl (any_of HT_.out kk) (fun _ _ _ h => h) (Or.inr ⟨by rfl, rfl⟩) ?_ ?_
      rotate_left
      ·simp only [Act.put, List.setIfInBounds_toArray, List.set_cons_zero, List.set_cons_succ, i64_w, i32_w]
       rfl
      refine pure_ (i := 8) (N := some 80) (v := ?_) (a' := ?_) #[true, true, true, true, true, true, true, true, true, false] rfl rfl (any_of HT_.out kk) (fun _ _ _ h => h) (Or.inl ⟨by rfl, ?_⟩) ?_ ?_
      rotate_left
      ·intro w'
       go_simp
       with_reducible rfl
      rotate_left
      ·simp only [Act.put, List.setIfInBounds_toArray, List.set_cons_zero, List.set_cons_succ, i64_w, i32_w]
       rfl
      refine pure_ (i := 9) (N := some 12) (v := ?_) (a' := ?_) #[true, true, true, true, true, true, true, true, true, true] rfl rfl (any_of HT_.out kk) (fun _ _ _ h => h) (Or.inl ⟨by rfl, ?_⟩) ?_ ?_
      rotate_left
      ·intro w'
       go_simp
       with_reducible rfl
      rotate_left
      ·simp only [Act.put, List.setIfInBounds_toArray, List.set_cons_zero, List.set_cons_succ, i64_w, i32_w]
       rfl
      refine done_ (done_of HT_.out kk) ?_
      try go_wp2
      go_roundg k3
      case measure => have := HJ4.out; have := HJ12.out; have := HK3.out; omega
      case rel => exact ⟨(false), (wrap64 (x13_3 + 1)), pr, pr, H', ⟨by have := HJ4.out; have := HJ12.out; have := HK3.out; omega⟩, ⟨by (with_reducible repeat (first | apply Kd.R_alloc | apply Kd.R_drewN | apply Kd.R_drew)); exact HO_11.out⟩, ⟨by (with_reducible repeat (first | refine blk_drewN ?_ _ | refine blk_drew ?_ | refine blk_alloc ?_ _)); exact BK213.out⟩, ⟨by (with_reducible repeat (first | refine blk_drewN ?_ _ | refine blk_drew ?_ | refine blk_alloc ?_ _)); exact BK214.out⟩, ⟨pw⟩⟩
     rw [if_neg c76] at H
     have c76b0 : decide (x13_3 < (t234.length : Int)) = false := decide_eq_false c76
     clear c76
     rcases t232 with _ | q239
     ·have H1 : (some (t231 == x12_3)) = some r := by rw [if_pos (show (none : Option Int).isNone = true by rfl)] at H; exact H
      clear H
      have H := H1
      clear H1
      try simp only [errW_none, errW_some]
      obtain rfl := Option.some.inj H
      obtain ⟨Ao85, co85, eo85⟩ := Kd.R_slice HO_11.out
      subst eo85
      go_wp2
      go_ret
      exact ⟨pe, pw⟩
     have H1 : (none) = some r := by rw [if_neg (show ¬ (some q239).isNone = true by simp)] at H; exact H
     clear H
     have H := H1
     clear H1
     try simp only [errW_none, errW_some]
     exact absurd H (by simp)

end Go.Proofs.YtimgfgambeffeaaDoor.C
