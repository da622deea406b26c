-- Written by wip/xprint.py (the session's program over the kit's print).
import Derived.Test.YtjpboodkmhikpaaDoorEb
import Derived.Test.YtjpboodkmhikpaaDoorC0
import Derived.Test.YtjpboodkmhikpaaDoorC1
import Derived.Test.YtjpboodkmhikpaaDoorC2
namespace Go.Proofs.YtjpboodkmhikpaaDoor.C
open Go.RowKit Go.Proofs.YtjpboodkmhikpaaDoorW.PrintWords Go.Proofs.YtjpboodkmhikpaaDoorW.PrintLast Go.Proofs.YtjpboodkmhikpaaDoorW.PrintMore Go.Proofs.Rcg
attribute [local go_sem] max2_int min2_int max_two min_two max_three min_three max_four min_four   -- for this text's walks alone
set_option linter.unusedVariables false
set_option linter.unusedSimpArgs false

attribute [local go_sem high] eqA24
/-! ### congr_Join: function 40 -/
def congr_Join.f (k : Nat) (a0_0 : Int) (a0_1 : Int) (a1_0 : Int) (a1_1 : Int) : Option (Int × Int × Option Int) := (congr_two.f k a0_0 a0_1 a1_0 a1_1).bind fun t142 => (if t142.isNone = true then ((congr_gcd.f k (([a0_1, a1_1, wrap64 (a0_0 - a1_0)] : List Int))).bind fun t147 => ((congr_told.f k a0_0 t147).bind fun bt148 => (some (bt148.1, bt148.2, none)))) else (some (0, 0, some (t142.getD 0))))
theorem congr_Join.mono : ∀ a0 a1 a2 a3 k, LeO (congr_Join.f k a0 a1 a2 a3) (congr_Join.f (k + 1) a0 a1 a2 a3) := by
 intro a0 a1 a2 a3 k
 unfold congr_Join.f
 repeat' first
   | (with_reducible exact congr_gcd.mono _ _)
   | (with_reducible exact congr_told.mono _ _ _)
   | (with_reducible exact congr_two.mono _ _ _ _ _)
   | (with_reducible exact LeO.refl _)
   | (with_reducible exact LeO.none _)
   | (with_reducible refine LeO.ite ?_ ?_)
   | (with_reducible refine LeO.bind ?_ (fun _ => ?_))
   | exact congr_gcd.mono _ _
   | exact congr_told.mono _ _ _
   | exact congr_two.mono _ _ _ _ _
   | exact LeO.none _
   | refine LeO.ite ?_ ?_
   | refine LeO.bind ?_ (fun _ => ?_)
def congr_Join.T4 : Bool × List (List Nat × List Nat) := (true, [([], []), ([0], [0]), ([], []), ([2], [2]), ([], []), ([4], [4]), ([], []), ([6], [6]), ([], []), ([8], [8]), ([7, 9], [7, 9]), ([3, 5, 10], [3, 5, 10]), ([11], [11]), ([1, 12, 12], [1, 12]), ([13, 13, 0, 1, 2, 3, 4, 5, 6, 7, 8, 9, 10, 11, 12, 13], [13]), ([14, 0, 1, 2, 3, 4, 5, 6, 7, 8, 9, 10, 11, 12, 13, 14], [])])
def congr_Join.B4 : List Nat := [0, 1, 0, 4, 0, 16, 0, 64, 0, 256, 960, 2044, 4092, 8191, 16383, 32767]
theorem congr_Join.tab4 : rtab .any (opsOf Tryd.f40 4) = congr_Join.T4 := by kernel_rfl
theorem congr_Join.bits4 : waitsOk congr_Join.T4.2 congr_Join.B4 = true := by kernel_rfl
set_option maxHeartbeats 8000000 in
set_option maxRecDepth 100000 in
theorem congr_Join.calls [EA] (k : Nat) (a0_0 : Int) (a0_1 : Int) (a1_0 : Int) (a1_1 : Int) (r1 : Int) (r2 : Int) (r3 : Option Int) (w : World) (h : congr_Join.f k a0_0 a0_1 a1_0 a1_1 = some (r1, r2, r3)) (h2_ : ErrAt 2 1 w) (h3_ : ErrAt 3 0 w) :
  Calls Tryd.prog 40 #[.agg #[.int .i64 a0_0, .int .i64 a0_1], .agg #[.int .i64 a1_0, .int .i64 a1_1]] w fun e w' => e = .returned (.tuple #[.agg #[.int .i64 r1, .int .i64 r2], errW r3]) ∧ Below w.heap.size w w' := by
 have hE2 := am h2_
 clear h2_
 have hE3 := am h3_
 clear h3_
 have hu24 := Tryd.underlying24
 have hu26 := Tryd.underlying26
 have HB := am (Below.refl w.heap.size w)
 have H : ((congr_two.f k a0_0 a0_1 a1_0 a1_1).bind fun t142 => (if t142.isNone = true then ((congr_gcd.f k (([a0_1, a1_1, wrap64 (a0_0 - a1_0)] : List Int))).bind fun t147 => ((congr_told.f k a0_0 t147).bind fun bt148 => (some (bt148.1, bt148.2, none)))) else (some (0, 0, some (t142.getD 0))))) = some (r1, r2, r3) := h
 clear h
 replace H := Option.bind_eq_some_iff.mp H
 obtain ⟨t142, A30, H⟩ := H
 replace H : (if t142.isNone = true then ((congr_gcd.f k (([a0_1, a1_1, wrap64 (a0_0 - a1_0)] : List Int))).bind fun t147 => ((congr_told.f k a0_0 t147).bind fun bt148 => (some (bt148.1, bt148.2, none)))) else (some (0, 0, some (t142.getD 0)))) = some (r1, r2, r3) := H
 have A3 := am A30
 clear A30
 rcases t142 with _ | q143
 ·have H1 : ((congr_gcd.f k (([a0_1, a1_1, wrap64 (a0_0 - a1_0)] : List Int))).bind fun t147 => ((congr_told.f k a0_0 t147).bind fun bt148 => (some (bt148.1, bt148.2, none)))) = some (r1, r2, r3) := by rw [if_pos (show (none : Option Int).isNone = true by rfl)] at H; exact H
  clear H
  have H := H1
  clear H1
  try simp only [errW_none, errW_some]
  obtain ⟨y144, hy144⟩ : ∃ y_ : List Int, y_ = (([a0_1, a1_1, wrap64 (a0_0 - a1_0)] : List Int)) := ⟨_, rfl⟩
  replace H : ((congr_gcd.f k y144).bind fun t147 => ((congr_told.f k a0_0 t147).bind fun bt148 => (some (bt148.1, bt148.2, none)))) = some (r1, r2, r3) := by first | (rw [hy144]; with_reducible exact H) | (have H2_ := (Option.bind_some _ _).symm.trans H; rw [hy144]; with_reducible exact H2_) | (have H2_ := (Option.bind_some _ _).symm.trans H; with_reducible exact H2_) | with_reducible exact H | (rw [hy144]; exact H) | exact H
  have Ny144 := am hy144
  clear hy144
  replace H := Option.bind_eq_some_iff.mp H
  obtain ⟨t147, A40, H⟩ := H
  replace H : ((congr_told.f k a0_0 t147).bind fun bt148 => (some (bt148.1, bt148.2, none))) = some (r1, r2, r3) := H
  have A4 := am A40
  clear A40
  replace H := Option.bind_eq_some_iff.mp H
  obtain ⟨⟨t148, t149⟩, A50, H⟩ := H
  replace H : (some (t148, t149, none)) = some (r1, r2, r3) := H
  have A5 := am A50
  clear A50
  simp only [Option.some.injEq, Prod.mk.injEq] at H
  obtain ⟨rfl, rfl, rfl⟩ := H
  go_enter Tryd.func40, Tryd.ntmps40
  try go_wp2_with (first | ((with_reducible refine gate_dst (N := 2) rfl ?_); refine box_event ?hg (N := 2) ?hd (cs := #[.int .i64 a0_0, .int .i64 a0_1]) (t := 24) ?hr ?_; (case hd => rfl); (case hg => rfl); (case hr => first | (go_simp; done) | (go_simp; rfl)); intro gb139 hg w6 hbox hb; have n0_ := am (below_step pw hb); have n1_ := am (hbox); have n2_ := am ((by rw [hg]; exact (below_size pw) : w.heap.size ≤ gb139)); have n3_ := am ((by rw [hg]; exact (below_size pw) : w.heap.size ≤ gb139)); clear HB; have HB := n0_; have BK139 := n1_; have GW139 := n2_; have GE139 := n3_; clear n0_ n1_ n2_ n3_; clear hb hbox hg) | ((with_reducible refine gate_dst (N := 3) rfl ?_); refine box_event ?hg (N := 3) ?hd (cs := #[.int .i64 a1_0, .int .i64 a1_1]) (t := 24) ?hr ?_; (case hd => rfl); (case hg => rfl); (case hr => first | (go_simp; done) | (go_simp; rfl)); intro gb140 hg w7 hbox hb; have n0_ := bb BK139 hb; have n1_ := am (below_step pw hb); have n2_ := am (hbox); have n3_ := am ((by rw [hg]; exact (below_size pw) : w.heap.size ≤ gb140)); have n4_ := am ((by rw [hg]; exact (below_size pw) : w.heap.size ≤ gb140)); have n5_ := am ((by rw [hg]; exact Nat.ne_of_lt (blk_lt pk) : gb139 ≠ gb140)); have n6_ := am ((by rw [hg]; exact Nat.ne_of_gt (blk_lt pk) : gb140 ≠ gb139)); clear BK139; clear HB; have BK139 := n0_; have HB := n1_; have BK140 := n2_; have GW140 := n3_; have GE140 := n4_; have NB139_140 := n5_; have NB140_139 := n6_; clear n0_ n1_ n2_ n3_ n4_ n5_ n6_; clear hb hbox hg) | ((with_reducible refine gate_dst (N := 4) rfl ?_); refine box_event ?hg (N := 4) ?hd (cs := #[.int .i64 0, .int .i64 0]) (t := 24) ?hr ?_; (case hd => rfl); (case hg => rfl); (case hr => first | (go_simp; done) | (go_simp; rfl)); intro gb141 hg w8 hbox hb; have n0_ := bb BK139 hb; have n1_ := bb BK140 hb; have n2_ := am (below_step pw hb); have n3_ := am (hbox); have n4_ := am ((by rw [hg]; exact (below_size pw) : w.heap.size ≤ gb141)); have n5_ := am ((by rw [hg]; exact (below_size pw) : w.heap.size ≤ gb141)); have n6_ := am ((by rw [hg]; exact Nat.ne_of_lt (blk_lt pk) : gb139 ≠ gb141)); have n7_ := am ((by rw [hg]; exact Nat.ne_of_gt (blk_lt pk) : gb141 ≠ gb139)); have n8_ := am ((by rw [hg]; exact Nat.ne_of_lt (blk_lt pk) : gb140 ≠ gb141)); have n9_ := am ((by rw [hg]; exact Nat.ne_of_gt (blk_lt pk) : gb141 ≠ gb140)); clear BK139; clear BK140; clear HB; have BK139 := n0_; have BK140 := n1_; have HB := n2_; have BK141 := n3_; have GW141 := n4_; have GE141 := n5_; have NB139_141 := n6_; have NB141_139 := n7_; have NB140_141 := n8_; have NB141_140 := n9_; clear n0_ n1_ n2_ n3_ n4_ n5_ n6_ n7_ n8_ n9_; clear hb hbox hg; have hnb9 := NB139_140.out; have hnc9 := NB140_139.out; have hnb10 := NB139_141.out; have hnc10 := NB141_139.out; have hcz11_0 : w8.cell? ⟨gb139, 0, none⟩ = some (.int .i64 a0_0) := bc BK139 0; have hcz11_1 : w8.cell? ⟨gb139, 1, none⟩ = some (.int .i64 a0_1) := bc BK139 1; have hfz11_0 := blk_frozen BK139.out 0; have hfz11_1 := blk_frozen BK139.out 1; have hnb12 := NB140_141.out; have hnc12 := NB141_140.out; have hcz13_0 : w8.cell? ⟨gb140, 0, none⟩ = some (.int .i64 a1_0) := bc BK140 0; have hcz13_1 : w8.cell? ⟨gb140, 1, none⟩ = some (.int .i64 a1_1) := bc BK140 1; have hfz13_0 := blk_frozen BK140.out 0; have hfz13_1 := blk_frozen BK140.out 1) | ((with_reducible refine gate_callee (f := 64) rfl ?_); refine goesL_ (some 9) rfl rfl Tryd.func64 kk rfl #[.agg #[.int .i64 a0_0, .int .i64 a0_1], .agg #[.int .i64 a1_0, .int .i64 a1_1]] rfl (by (try simp only [List.map_toArray, List.map_cons, List.map_nil]); first | done | rfl | (simp only [List.length_drop, List.length_take]; rfl)) ?_; (with_reducible refine (congr_two.calls k a0_0 a0_1 a1_0 a1_1 none _ A3.out (am (ErrAt.below hE2.out pw)).out (am (ErrAt.below hE3.out pw)).out).mono ?_); rintro e w14 ⟨rfl, hb⟩; refine ⟨_, rfl, ?_⟩; have n0_ := bb BK139 hb; have n1_ := bb BK140 hb; have n2_ := bb BK141 hb; have n3_ := am (below_step pw hb); clear BK139; clear BK140; clear BK141; clear HB; have BK139 := n0_; have BK140 := n1_; have BK141 := n2_; have HB := n3_; clear n0_ n1_ n2_ n3_; (try clear hb); (try clear hb2); (try clear hk); (try clear hi); (try simp only [errW_none, errW_some])))
  have n0_ := am (blk_drew BK139.out)
  have n1_ := am (blk_drew BK140.out)
  have n2_ := am (blk_drew BK141.out)
  have n3_ := am (below_drew1 HB.out)
  clear BK139 BK140 BK141 HB
  revert n0_ n1_ n2_ n3_
  intro BK139 BK140 BK141 HB
  refine start_ (n := 16) (S := fun w' => w'.cell? ⟨gb139, 0, none⟩ = some (.int .i64 a0_0) ∧ w'.cell? ⟨gb139, 1, none⟩ = some (.int .i64 a0_1) ∧ w'.cell? ⟨gb140, 0, none⟩ = some (.int .i64 a1_0) ∧ w'.cell? ⟨gb140, 1, none⟩ = some (.int .i64 a1_1)) (ds := []) #[false, false, false, false, false, false, false, false, false, false, false, false, false, false, false, false] kk rfl rfl ⟨bc BK139 0, bc BK139 1, bc BK140 0, bc BK140 1⟩ (fun hHeld => ?_); refine with_tabW congr_Join.tab4 congr_Join.bits4 (fun HT_ HW_ => ?_)
  generalize w14.drew = w15 at BK139 BK140 BK141 HB hHeld ⊢
  refine pure_ (i := 0) (N := some 14) (v := ?_) (a' := ?_) #[true, false, false, false, false, false, false, false, false, false, false, false, false, false, false, false] rfl rfl (any_of HT_.out kk) (fun _ _ _ h => h) (Or.inl ⟨by rfl, ?_⟩) ?_ ?_
  rotate_left
  ·intro w'
   go_simp
   with_reducible rfl
  rotate_left
  ·simp only [Act.put, List.setIfInBounds_toArray, List.set_cons_zero, List.set_cons_succ, i64_w, i32_w]
   rfl
  refine pure_ (i := 2) (N := some 16) (v := ?_) (a' := ?_) #[true, false, true, false, false, false, false, false, false, false, false, false, false, false, false, false] rfl rfl (any_of HT_.out kk) (fun _ _ _ h => h) (Or.inl ⟨by rfl, ?_⟩) ?_ ?_
  rotate_left
  ·intro w'
   go_simp
   with_reducible rfl
  rotate_left
  ·simp only [Act.put, List.setIfInBounds_toArray, List.set_cons_zero, List.set_cons_succ, i64_w, i32_w]
   rfl
  refine pure_ (i := 4) (N := some 18) (v := ?_) (a' := ?_) #[true, false, true, false, true, false, false, false, false, false, false, false, false, false, false, false] rfl rfl (any_of HT_.out kk) (fun _ _ _ h => h) (Or.inl ⟨by rfl, ?_⟩) ?_ ?_
  rotate_left
  ·intro w'
   go_simp
   with_reducible rfl
  rotate_left
  ·simp only [Act.put, List.setIfInBounds_toArray, List.set_cons_zero, List.set_cons_succ, i64_w, i32_w]
   rfl
  refine pure_ (i := 6) (N := some 20) (v := ?_) (a' := ?_) #[true, false, true, false, true, false, true, false, false, false, false, false, false, false, false, false] rfl rfl (any_of HT_.out kk) (fun _ _ _ h => h) (Or.inl ⟨by rfl, ?_⟩) ?_ ?_
  rotate_left
  ·intro w'
   go_simp
   with_reducible rfl
  rotate_left
  ·simp only [Act.put, List.setIfInBounds_toArray, List.set_cons_zero, List.set_cons_succ, i64_w, i32_w]
   rfl
  refine pure_ (i := 8) (N := some 22) (v := ?_) (a' := ?_) #[true, false, true, false, true, false, true, false, true, false, false, false, false, false, false, false] rfl rfl (any_of HT_.out kk) (fun _ _ _ h => h) (Or.inl ⟨by rfl, ?_⟩) ?_ ?_
  rotate_left
  ·intro w'
   go_simp
   with_reducible rfl
  rotate_left
  ·simp only [Act.put, List.setIfInBounds_toArray, List.set_cons_zero, List.set_cons_succ, i64_w, i32_w]
   rfl
  refine take_ (i := 1) (N := some 15) (v := ?_) (a' := ?_) #[true, true, true, false, true, false, true, false, true, false, false, false, false, false, false, false] rfl rfl (take_ofW HT_.out HW_.out kk) (fun _ _ _ h => h) (Or.inl ⟨by rfl, ?_⟩) hHeld ?_ ?_
  rotate_left
  ·rintro w' ⟨s0, s1, s2, s3⟩
   go_simp
   with_reducible rfl
  rotate_left
  ·simp only [Act.put, List.setIfInBounds_toArray, List.set_cons_zero, List.set_cons_succ, i64_w, i32_w]
   rfl
  refine take_ (i := 3) (N := some 17) (v := ?_) (a' := ?_) #[true, true, true, true, true, false, true, false, true, false, false, false, false, false, false, false] rfl rfl (take_ofW HT_.out HW_.out kk) (fun _ _ _ h => h) (Or.inl ⟨by rfl, ?_⟩) hHeld ?_ ?_
  rotate_left
  ·rintro w' ⟨s0, s1, s2, s3⟩
   go_simp
   with_reducible rfl
  rotate_left
  ·simp only [Act.put, List.setIfInBounds_toArray, List.set_cons_zero, List.set_cons_succ, i64_w, i32_w]
   rfl
  refine take_ (i := 5) (N := some 19) (v := ?_) (a' := ?_) #[true, true, true, true, true, true, true, false, true, false, false, false, false, false, false, false] rfl rfl (take_ofW HT_.out HW_.out kk) (fun _ _ _ h => h) (Or.inl ⟨by rfl, ?_⟩) hHeld ?_ ?_
  rotate_left
  ·rintro w' ⟨s0, s1, s2, s3⟩
   go_simp
   with_reducible rfl
  rotate_left
  ·simp only [Act.put, List.setIfInBounds_toArray, List.set_cons_zero, List.set_cons_succ, i64_w, i32_w]
   rfl
  refine take_ (i := 7) (N := some 21) (v := ?_) (a' := ?_) #[true, true, true, true, true, true, true, true, true, false, false, false, false, false, false, false] rfl rfl (take_ofW HT_.out HW_.out kk) (fun _ _ _ h => h) (Or.inl ⟨by rfl, ?_⟩) hHeld ?_ ?_
  rotate_left
  ·rintro w' ⟨s0, s1, s2, s3⟩
   go_simp
   with_reducible rfl
  rotate_left
  ·simp only [Act.put, List.setIfInBounds_toArray, List.set_cons_zero, List.set_cons_succ, i64_w, i32_w]
   rfl
  refine take_ (i := 9) (N := some 23) (v := ?_) (a' := ?_) #[true, true, true, true, true, true, true, true, true, true, false, false, false, false, false, false] rfl rfl (take_ofW HT_.out HW_.out kk) (fun _ _ _ h => h) (Or.inl ⟨by rfl, ?_⟩) hHeld ?_ ?_
  rotate_left
  ·rintro w' ⟨s0, s1, s2, s3⟩
   go_simp
   with_reducible rfl
  rotate_left
  ·simp only [Act.put, List.setIfInBounds_toArray, List.set_cons_zero, List.set_cons_succ, i64_w, i32_w]
   rfl
  refine pure_ (i := 10) (N := some 24) (v := ?_) (a' := ?_) #[true, true, true, true, true, true, true, true, true, true, true, false, false, false, false, false] rfl rfl (any_of HT_.out kk) (fun _ _ _ h => h) (Or.inl ⟨by rfl, ?_⟩) ?_ ?_
  rotate_left
  ·intro w'
   go_simp
   with_reducible rfl
  rotate_left
  ·simp only [Act.put, List.setIfInBounds_toArray, List.set_cons_zero, List.set_cons_succ, i64_w, i32_w]
   rfl
  refine one_ (i := 11) (N := some 25) #[true, true, true, true, true, true, true, true, true, true, true, true, false, false, false, false] rfl rfl (one_of HT_.out kk) (by decide) (fun K hK => ?_)
  refine Kd.R_lit_step (Kd.int .i64) _ 3 ?hg (N := 25) ?hd (xs := ([a0_1, a1_1, wrap64 (a0_0 - a1_0)] : List Int)) (inner := [.int .i64 a0_1, .int .i64 a1_1, .int .i64 (wrap64 (a0_0 - a1_0))]) (ok := fun _ => True) (okp := fun _ => True) ?hr ?hp (fun _ hk => hk) trivial (Below.refl _ _) (Nat.le_refl _) (by simp) ?_; (case hd => rfl); (case hg => rfl); (case hr => first | (go_simp; done) | (go_simp; rfl)); (case hp => exact (Reps.one (show Kd.M (Kd.int .i64) _ _ _ a0_1 [.int .i64 a0_1] from rfl) (Reps.one (show Kd.M (Kd.int .i64) _ _ _ a1_1 [.int .i64 a1_1] from rfl) (Reps.one (show Kd.M (Kd.int .i64) _ _ _ (wrap64 (a0_0 - a1_0)) [.int .i64 (wrap64 (a0_0 - a1_0))] from rfl) (Reps.none _ _)))))
  intro v145 w16 ho17 hb hg_ hnew_
  clear hg_ hnew_
  (first | rw [← Ny144.out] at ho17 | (simp only [Int.reduceToNat] at ho17; rw [← Ny144.out] at ho17))
  have n0_ := am (Kd.R_lower ho17 (below_size pw))
  have n1_ := bb BK139 hb
  have n2_ := bb BK140 hb
  have n3_ := bb BK141 hb
  have n4_ := am (below_step pw hb)
  clear BK139 BK140 BK141 HB
  revert n0_ n1_ n2_ n3_ n4_
  intro HO146 BK139 BK140 BK141 HB
  clear hb ho17
  obtain ⟨Ao18, co18, eo18⟩ := Kd.R_slice HO146.out
  (first | subst eo18 | (injection eo18 with f1_ f2_ f3_; have f4_ := f1_.symm; have f5_ := f3_.symm; clear f1_ f2_ f3_; subst f4_; subst f5_))
  refine hK.out _ _ ⟨bc BK139 0, bc BK139 1, bc BK140 0, bc BK140 1⟩ (fun hHeld => ?_)
  clear hK K
  refine norm_ (a' := ?_) ?_ ?_
  rotate_left
  ·show Act.put _ (some 25) _ = _
   simp only [Act.put, List.setIfInBounds_toArray, List.set_cons_zero, List.set_cons_succ, i64_w, i32_w]
   rfl
  refine one_ (i := 12) (N := some 26) #[true, true, true, true, true, true, true, true, true, true, true, true, true, false, false, false] rfl rfl (one_of HT_.out kk) (by decide) (fun K hK => ?_)
  refine goes_ Tryd.func66 kk rfl #[.slice Ao18 y144.length co18] (by rfl) rfl rfl (by (try simp only [List.map_toArray, List.map_cons, List.map_nil]); first | done | rfl | (simp only [List.length_drop, List.length_take]; rfl)) ?_
  with_reducible refine (congr_gcd.calls k _ _ y144 t147 _ ?side1 ?side2 A4.out).mono ?_
  (case side1 => repeat (first | exact (Kd.R_reads' HO146.out).2.2 | (with_reducible refine Kd.C_alloc ?_ _) | (with_reducible refine Kd.C_drewN ?_ _) | (with_reducible refine Kd.C_drew ?_)))
  (case side2 => exact (Kd.R_reads' HO146.out).2.1)
  rintro e w19 ⟨rfl, hb⟩
  refine ⟨_, rfl, ?_⟩
  have n0_ := am (Kd.R_below (by (with_reducible repeat (first | apply Kd.R_alloc | apply Kd.R_drewN | apply Kd.R_drew)); exact HO146.out) hb)
  have n1_ := bb BK139 hb
  have n2_ := bb BK140 hb
  have n3_ := bb BK141 hb
  have n4_ := am (below_step pw hb)
  clear HO146 BK139 BK140 BK141 HB
  revert n0_ n1_ n2_ n3_ n4_
  intro HO146 BK139 BK140 BK141 HB
  (try clear hb)
  (try clear hb2)
  (try clear hk)
  (try clear hi)
  refine hK.out _ _ ⟨bc BK139 0, bc BK139 1, bc BK140 0, bc BK140 1⟩ (fun hHeld => ?_)
  clear hK K
  refine norm_ (a' := ?_) ?_ ?_
  rotate_left
  ·show Act.put _ (some 26) _ = _
   simp only [Act.put, List.setIfInBounds_toArray, List.set_cons_zero, List.set_cons_succ, i64_w, i32_w]
   rfl
  refine one_ (i := 13) (N := some 27) #[true, true, true, true, true, true, true, true, true, true, true, true, true, true, false, false] rfl rfl (one_of HT_.out kk) (by decide) (fun K hK => ?_)
  refine goes_ Tryd.func67 kk rfl #[.int .i64 a0_0, .int .i64 t147] (by rfl) rfl rfl (by (try simp only [List.map_toArray, List.map_cons, List.map_nil]); first | done | rfl | (simp only [List.length_drop, List.length_take]; rfl)) ?_
  with_reducible refine (congr_told.calls k a0_0 t147 t148 t149 _ A5.out).mono ?_
  rintro e w20 ⟨rfl, hb⟩
  refine ⟨_, rfl, ?_⟩
  have n0_ := am (Kd.R_below (by (with_reducible repeat (first | apply Kd.R_alloc | apply Kd.R_drewN | apply Kd.R_drew)); exact HO146.out) hb)
  have n1_ := bb BK139 hb
  have n2_ := bb BK140 hb
  have n3_ := bb BK141 hb
  have n4_ := am (below_step pw hb)
  clear HO146 BK139 BK140 BK141 HB
  revert n0_ n1_ n2_ n3_ n4_
  intro HO146 BK139 BK140 BK141 HB
  (try clear hb)
  (try clear hb2)
  (try clear hk)
  (try clear hi)
  refine hK.out _ _ ⟨bc BK139 0, bc BK139 1, bc BK140 0, bc BK140 1⟩ (fun hHeld => ?_)
  clear hK K
  refine norm_ (a' := ?_) ?_ ?_
  rotate_left
  ·show Act.put _ (some 27) _ = _
   simp only [Act.put, List.setIfInBounds_toArray, List.set_cons_zero, List.set_cons_succ, i64_w, i32_w]
   rfl
  refine one_ (i := 14) (N := none) #[true, true, true, true, true, true, true, true, true, true, true, true, true, true, true, false] rfl rfl (one_of HT_.out kk) (by decide) (fun K hK => ?_)
  have hs21 : w20.cell? ⟨gb141, 0, none⟩ = some (.int .i64 0) := bc BK141 0
  have hfs21 := blk_frozen BK141.out 0
  have hns21_0 := NB139_141.out
  have hns21_1 := NB140_141.out
  have hms21_0 := NB141_139.out
  have hms21_1 := NB141_140.out
  have hs22 : w20.cell? ⟨gb141, 1, none⟩ = some (.int .i64 0) := bc BK141 1
  have hfs22 := blk_frozen BK141.out 1
  have hns22_0 := NB139_141.out
  have hns22_1 := NB140_141.out
  have hms22_0 := NB141_139.out
  have hms22_1 := NB141_140.out
  refine skip_ (w1 := ?_) (by rfl) rfl ?_ ?_
  rotate_left
  ·go_simp
   rfl
  refine hK.out _ _ ⟨((cell_far (p := ⟨gb141, _, none⟩) NB139_141.out _).trans (((cell_far (p := ⟨gb141, _, none⟩) NB139_141.out _).trans (hHeld.1)))), ((cell_far (p := ⟨gb141, _, none⟩) NB139_141.out _).trans (((cell_far (p := ⟨gb141, _, none⟩) NB139_141.out _).trans (hHeld.2.1)))), ((cell_far (p := ⟨gb141, _, none⟩) NB140_141.out _).trans (((cell_far (p := ⟨gb141, _, none⟩) NB140_141.out _).trans (hHeld.2.2.1)))), ((cell_far (p := ⟨gb141, _, none⟩) NB140_141.out _).trans (((cell_far (p := ⟨gb141, _, none⟩) NB140_141.out _).trans (hHeld.2.2.2))))⟩ (fun hHeld => ?_)
  clear hK K
  refine pure_ (i := 15) (N := some 5) (v := ?_) (a' := ?_) #[true, true, true, true, true, true, true, true, true, true, true, true, true, true, true, true] rfl rfl (any_of HT_.out kk) (fun _ _ _ h => h) (Or.inl ⟨by rfl, ?_⟩) ?_ ?_
  rotate_left
  ·intro w'
   go_simp
   with_reducible rfl
  rotate_left
  ·simp only [Act.put, List.setIfInBounds_toArray, List.set_cons_zero, List.set_cons_succ, i64_w, i32_w]
   rfl
  refine done_ (done_of HT_.out kk) ?_
  try go_wp2
  refine bodyPost_ret (results_ct rfl _ _ gb141 24 #[.int .i64 t148, .int .i64 t149] (0, 0) _ rfl (by (with_reducible repeat (first | refine blk_drewN ?_ _ | refine blk_drew ?_ | refine blk_alloc ?_ _)); refine blk_put (cs := #[.int .i64 t148, .int .i64 0]) ?_ 1 _ rfl; (with_reducible repeat (first | refine blk_drewN ?_ _ | refine blk_drew ?_ | refine blk_alloc ?_ _)); refine blk_put (cs := #[.int .i64 0, .int .i64 0]) ?_ 0 _ rfl; (with_reducible repeat (first | refine blk_drewN ?_ _ | refine blk_drew ?_ | refine blk_alloc ?_ _)); exact BK141.out) Tryd.underlying24 rfl kk) rfl ?_
  exact ⟨pe, pw⟩
 have H1 : (some (0, 0, some q143)) = some (r1, r2, r3) := by rw [if_neg (show ¬ (some q143).isNone = true by simp)] at H; exact H
 clear H
 have H := H1
 clear H1
 try simp only [errW_none, errW_some]
 simp only [Option.some.injEq, Prod.mk.injEq] at H
 obtain ⟨rfl, rfl, rfl⟩ := H
 go_enter Tryd.func40, Tryd.ntmps40
 go_wp2_with (first | ((with_reducible refine gate_dst (N := 2) rfl ?_); refine box_event ?hg (N := 2) ?hd (cs := #[.int .i64 a0_0, .int .i64 a0_1]) (t := 24) ?hr ?_; (case hd => rfl); (case hg => rfl); (case hr => first | (go_simp; done) | (go_simp; rfl)); intro gb139 hg w23 hbox hb; have n0_ := am (below_step pw hb); have n1_ := am (hbox); have n2_ := am ((by rw [hg]; exact (below_size pw) : w.heap.size ≤ gb139)); have n3_ := am ((by rw [hg]; exact (below_size pw) : w.heap.size ≤ gb139)); clear HB; have HB := n0_; have BK139 := n1_; have GW139 := n2_; have GE139 := n3_; clear n0_ n1_ n2_ n3_; clear hb hbox hg) | ((with_reducible refine gate_dst (N := 3) rfl ?_); refine box_event ?hg (N := 3) ?hd (cs := #[.int .i64 a1_0, .int .i64 a1_1]) (t := 24) ?hr ?_; (case hd => rfl); (case hg => rfl); (case hr => first | (go_simp; done) | (go_simp; rfl)); intro gb140 hg w24 hbox hb; have n0_ := bb BK139 hb; have n1_ := am (below_step pw hb); have n2_ := am (hbox); have n3_ := am ((by rw [hg]; exact (below_size pw) : w.heap.size ≤ gb140)); have n4_ := am ((by rw [hg]; exact (below_size pw) : w.heap.size ≤ gb140)); have n5_ := am ((by rw [hg]; exact Nat.ne_of_lt (blk_lt pk) : gb139 ≠ gb140)); have n6_ := am ((by rw [hg]; exact Nat.ne_of_gt (blk_lt pk) : gb140 ≠ gb139)); clear BK139; clear HB; have BK139 := n0_; have HB := n1_; have BK140 := n2_; have GW140 := n3_; have GE140 := n4_; have NB139_140 := n5_; have NB140_139 := n6_; clear n0_ n1_ n2_ n3_ n4_ n5_ n6_; clear hb hbox hg) | ((with_reducible refine gate_dst (N := 4) rfl ?_); refine box_event ?hg (N := 4) ?hd (cs := #[.int .i64 0, .int .i64 0]) (t := 24) ?hr ?_; (case hd => rfl); (case hg => rfl); (case hr => first | (go_simp; done) | (go_simp; rfl)); intro gb141 hg w25 hbox hb; have n0_ := bb BK139 hb; have n1_ := bb BK140 hb; have n2_ := am (below_step pw hb); have n3_ := am (hbox); have n4_ := am ((by rw [hg]; exact (below_size pw) : w.heap.size ≤ gb141)); have n5_ := am ((by rw [hg]; exact (below_size pw) : w.heap.size ≤ gb141)); have n6_ := am ((by rw [hg]; exact Nat.ne_of_lt (blk_lt pk) : gb139 ≠ gb141)); have n7_ := am ((by rw [hg]; exact Nat.ne_of_gt (blk_lt pk) : gb141 ≠ gb139)); have n8_ := am ((by rw [hg]; exact Nat.ne_of_lt (blk_lt pk) : gb140 ≠ gb141)); have n9_ := am ((by rw [hg]; exact Nat.ne_of_gt (blk_lt pk) : gb141 ≠ gb140)); clear BK139; clear BK140; clear HB; have BK139 := n0_; have BK140 := n1_; have HB := n2_; have BK141 := n3_; have GW141 := n4_; have GE141 := n5_; have NB139_141 := n6_; have NB141_139 := n7_; have NB140_141 := n8_; have NB141_140 := n9_; clear n0_ n1_ n2_ n3_ n4_ n5_ n6_ n7_ n8_ n9_; clear hb hbox hg; have hnb26 := NB139_140.out; have hnc26 := NB140_139.out; have hnb27 := NB139_141.out; have hnc27 := NB141_139.out; have hcz28_0 : w25.cell? ⟨gb139, 0, none⟩ = some (.int .i64 a0_0) := bc BK139 0; have hcz28_1 : w25.cell? ⟨gb139, 1, none⟩ = some (.int .i64 a0_1) := bc BK139 1; have hfz28_0 := blk_frozen BK139.out 0; have hfz28_1 := blk_frozen BK139.out 1; have hnb29 := NB140_141.out; have hnc29 := NB141_140.out; have hcz30_0 : w25.cell? ⟨gb140, 0, none⟩ = some (.int .i64 a1_0) := bc BK140 0; have hcz30_1 : w25.cell? ⟨gb140, 1, none⟩ = some (.int .i64 a1_1) := bc BK140 1; have hfz30_0 := blk_frozen BK140.out 0; have hfz30_1 := blk_frozen BK140.out 1) | ((with_reducible refine gate_callee (f := 64) rfl ?_); refine goesL_ (some 9) rfl rfl Tryd.func64 kk rfl #[.agg #[.int .i64 a0_0, .int .i64 a0_1], .agg #[.int .i64 a1_0, .int .i64 a1_1]] rfl (by (try simp only [List.map_toArray, List.map_cons, List.map_nil]); first | done | rfl | (simp only [List.length_drop, List.length_take]; rfl)) ?_; (with_reducible refine (congr_two.calls k a0_0 a0_1 a1_0 a1_1 (some q143) _ A3.out (am (ErrAt.below hE2.out pw)).out (am (ErrAt.below hE3.out pw)).out).mono ?_); rintro e w31 ⟨rfl, hb⟩; refine ⟨_, rfl, ?_⟩; have n0_ := bb BK139 hb; have n1_ := bb BK140 hb; have n2_ := bb BK141 hb; have n3_ := am (below_step pw hb); clear BK139; clear BK140; clear BK141; clear HB; have BK139 := n0_; have BK140 := n1_; have BK141 := n2_; have HB := n3_; clear n0_ n1_ n2_ n3_; (try clear hb); (try clear hb2); (try clear hk); (try clear hi); (try simp only [errW_none, errW_some]); have hcz32_0 : w31.cell? ⟨gb141, 0, none⟩ = some (.int .i64 0) := bc BK141 0; have hcz32_1 : w31.cell? ⟨gb141, 1, none⟩ = some (.int .i64 0) := bc BK141 1; have hfz32_0 := blk_frozen BK141.out 0; have hfz32_1 := blk_frozen BK141.out 1))
 refine bodyPost_ret (results_ct rfl _ _ gb141 24 #[.int .i64 0, .int .i64 0] (0, 0) _ rfl (by (with_reducible repeat (first | refine blk_drewN ?_ _ | refine blk_drew ?_ | refine blk_alloc ?_ _)); refine blk_put (cs := #[.int .i64 0, .int .i64 0]) ?_ 1 _ rfl; (with_reducible repeat (first | refine blk_drewN ?_ _ | refine blk_drew ?_ | refine blk_alloc ?_ _)); refine blk_put (cs := #[.int .i64 0, .int .i64 0]) ?_ 0 _ rfl; (with_reducible repeat (first | refine blk_drewN ?_ _ | refine blk_drew ?_ | refine blk_alloc ?_ _)); exact BK141.out) Tryd.underlying24 rfl kk) rfl ?_
 exact ⟨pe, pw⟩

/-! ### congr_Join, where there is no error -/
def congr_Join_ok.f (k : Nat) (a0_0 : Int) (a0_1 : Int) (a1_0 : Int) (a1_1 : Int) : Option (Int × Int) := (congr_Join.f k a0_0 a0_1 a1_0 a1_1).bind fun t_ => match t_ with | (q0_, q1_, q2_) => if q2_.isNone = true then some (q0_, q1_) else none
theorem congr_Join_ok.calls [EA] (k : Nat) (a0_0 : Int) (a0_1 : Int) (a1_0 : Int) (a1_1 : Int) (r1 : Int) (r2 : Int) (w : World) (h : congr_Join_ok.f k a0_0 a0_1 a1_0 a1_1 = some (r1, r2)) (h2_ : ErrAt 2 1 w) (h3_ : ErrAt 3 0 w) :
  Calls Tryd.prog 40 #[.agg #[.int .i64 a0_0, .int .i64 a0_1], .agg #[.int .i64 a1_0, .int .i64 a1_1]] w fun e w' => e = .returned (.tuple #[.agg #[.int .i64 r1, .int .i64 r2], .nilIface]) ∧ Below w.heap.size w w' := by
 obtain ⟨t_, h1_, h2_⟩ := Option.bind_eq_some_iff.mp h
 obtain ⟨q0_, q1_, q2_⟩ := t_
 cases q2_ with
 | some c_ => exact absurd h2_ (by simp)
 | none =>
  simp only [Option.isNone_none, if_true, Option.some.injEq, Prod.mk.injEq] at h2_
  obtain ⟨rfl, rfl⟩ := h2_
  exact congr_Join.calls k a0_0 a0_1 a1_0 a1_1 _ _ none w h1_ h2_ h3_
theorem congr_Join_ok.mono : ∀ a0_ a1_ a2_ a3_ k, LeO (congr_Join_ok.f k a0_ a1_ a2_ a3_) (congr_Join_ok.f (k + 1) a0_ a1_ a2_ a3_) := by
 intro a0_ a1_ a2_ a3_ k
 unfold congr_Join_ok.f
 exact LeO.bind (congr_Join.mono a0_ a1_ a2_ a3_ k) (fun _ => LeO.refl _)

/-! ### congr_Within: function 42 -/
def congr_Within.f (k : Nat) (a0_0 : Int) (a0_1 : Int) (a1_0 : Int) (a1_1 : Int) : Option (Bool × Option Int) := (congr_two.f k a0_0 a0_1 a1_0 a1_1).bind fun t152 => (if t152.isNone = true then (if a1_1 = 0 then (some ((a0_0 == a1_0 && (a0_1 == a1_1)), none)) else (if (Int.tmod a0_1 a1_1) = 0 then ((congr_Has.f k a1_0 a1_1 a0_0).bind fun t154 => (some (t154, none))) else (some (false, none)))) else (some (false, some (t152.getD 0))))
theorem congr_Within.mono : ∀ a0 a1 a2 a3 k, LeO (congr_Within.f k a0 a1 a2 a3) (congr_Within.f (k + 1) a0 a1 a2 a3) := by
 intro a0 a1 a2 a3 k
 unfold congr_Within.f
 repeat' first
   | (with_reducible exact congr_Has.mono _ _ _ _)
   | (with_reducible exact congr_two.mono _ _ _ _ _)
   | (with_reducible exact LeO.refl _)
   | (with_reducible exact LeO.none _)
   | (with_reducible refine LeO.ite ?_ ?_)
   | (with_reducible refine LeO.bind ?_ (fun _ => ?_))
   | exact congr_Has.mono _ _ _ _
   | exact congr_two.mono _ _ _ _ _
   | exact LeO.none _
   | refine LeO.ite ?_ ?_
   | refine LeO.bind ?_ (fun _ => ?_)
set_option maxHeartbeats 8000000 in
set_option maxRecDepth 100000 in
theorem congr_Within.calls [EA] (k : Nat) (a0_0 : Int) (a0_1 : Int) (a1_0 : Int) (a1_1 : Int) (r1 : Bool) (r2 : Option Int) (w : World) (h : congr_Within.f k a0_0 a0_1 a1_0 a1_1 = some (r1, r2)) (h2_ : ErrAt 2 1 w) (h3_ : ErrAt 3 0 w) :
  Calls Tryd.prog 42 #[.agg #[.int .i64 a0_0, .int .i64 a0_1], .agg #[.int .i64 a1_0, .int .i64 a1_1]] w fun e w' => e = .returned (.tuple #[.bool r1, errW r2]) ∧ Below w.heap.size w w' := by
 have hE2 := am h2_
 clear h2_
 have hE3 := am h3_
 clear h3_
 have hu24 := Tryd.underlying24
 have hu26 := Tryd.underlying26
 have HB := am (Below.refl w.heap.size w)
 have H : ((congr_two.f k a0_0 a0_1 a1_0 a1_1).bind fun t152 => (if t152.isNone = true then (if a1_1 = 0 then (some ((a0_0 == a1_0 && (a0_1 == a1_1)), none)) else (if (Int.tmod a0_1 a1_1) = 0 then ((congr_Has.f k a1_0 a1_1 a0_0).bind fun t154 => (some (t154, none))) else (some (false, none)))) else (some (false, some (t152.getD 0))))) = some (r1, r2) := h
 clear h
 replace H := Option.bind_eq_some_iff.mp H
 obtain ⟨t152, A30, H⟩ := H
 replace H : (if t152.isNone = true then (if a1_1 = 0 then (some ((a0_0 == a1_0 && (a0_1 == a1_1)), none)) else (if (Int.tmod a0_1 a1_1) = 0 then ((congr_Has.f k a1_0 a1_1 a0_0).bind fun t154 => (some (t154, none))) else (some (false, none)))) else (some (false, some (t152.getD 0)))) = some (r1, r2) := H
 have A3 := am A30
 clear A30
 rcases t152 with _ | q153
 ·have H1 : (if a1_1 = 0 then (some ((a0_0 == a1_0 && (a0_1 == a1_1)), none)) else (if (Int.tmod a0_1 a1_1) = 0 then ((congr_Has.f k a1_0 a1_1 a0_0).bind fun t154 => (some (t154, none))) else (some (false, none)))) = some (r1, r2) := by rw [if_pos (show (none : Option Int).isNone = true by rfl)] at H; exact H
  clear H
  have H := H1
  clear H1
  try simp only [errW_none, errW_some]
  by_cases c4 : a1_1 = 0
  ·rw [if_pos c4] at H
   have c4b0 : (a1_1 == 0) = true := beq_iff_eq.mpr c4
   have c4b1 : (a1_1 != 0) = false := bne_eq_false_iff_eq.mpr c4
   clear c4
   simp only [Option.some.injEq, Prod.mk.injEq] at H
   obtain ⟨rfl, rfl⟩ := H
   go_enter Tryd.func42, Tryd.ntmps42
   go_wp2_with (first | ((with_reducible refine gate_dst (N := 2) rfl ?_); refine box_event ?hg (N := 2) ?hd (cs := #[.int .i64 a0_0, .int .i64 a0_1]) (t := 24) ?hr ?_; (case hd => rfl); (case hg => rfl); (case hr => first | (go_simp; done) | (go_simp; rfl)); intro gb150 hg w5 hbox hb; have n0_ := am (below_step pw hb); have n1_ := am (hbox); have n2_ := am ((by rw [hg]; exact (below_size pw) : w.heap.size ≤ gb150)); have n3_ := am ((by rw [hg]; exact (below_size pw) : w.heap.size ≤ gb150)); clear HB; have HB := n0_; have BK150 := n1_; have GW150 := n2_; have GE150 := n3_; clear n0_ n1_ n2_ n3_; clear hb hbox hg) | ((with_reducible refine gate_dst (N := 3) rfl ?_); refine box_event ?hg (N := 3) ?hd (cs := #[.int .i64 a1_0, .int .i64 a1_1]) (t := 24) ?hr ?_; (case hd => rfl); (case hg => rfl); (case hr => first | (go_simp; done) | (go_simp; rfl)); intro gb151 hg w6 hbox hb; have n0_ := bb BK150 hb; have n1_ := am (below_step pw hb); have n2_ := am (hbox); have n3_ := am ((by rw [hg]; exact (below_size pw) : w.heap.size ≤ gb151)); have n4_ := am ((by rw [hg]; exact (below_size pw) : w.heap.size ≤ gb151)); have n5_ := am ((by rw [hg]; exact Nat.ne_of_lt (blk_lt pk) : gb150 ≠ gb151)); have n6_ := am ((by rw [hg]; exact Nat.ne_of_gt (blk_lt pk) : gb151 ≠ gb150)); clear BK150; clear HB; have BK150 := n0_; have HB := n1_; have BK151 := n2_; have GW151 := n3_; have GE151 := n4_; have NB150_151 := n5_; have NB151_150 := n6_; clear n0_ n1_ n2_ n3_ n4_ n5_ n6_; clear hb hbox hg; have hnb7 := NB150_151.out; have hnc7 := NB151_150.out; have hcz8_0 : w6.cell? ⟨gb150, 0, none⟩ = some (.int .i64 a0_0) := bc BK150 0; have hcz8_1 : w6.cell? ⟨gb150, 1, none⟩ = some (.int .i64 a0_1) := bc BK150 1; have hfz8_0 := blk_frozen BK150.out 0; have hfz8_1 := blk_frozen BK150.out 1; have hcz9_0 : w6.cell? ⟨gb151, 0, none⟩ = some (.int .i64 a1_0) := bc BK151 0; have hcz9_1 : w6.cell? ⟨gb151, 1, none⟩ = some (.int .i64 a1_1) := bc BK151 1; have hfz9_0 := blk_frozen BK151.out 0; have hfz9_1 := blk_frozen BK151.out 1) | ((with_reducible refine gate_callee (f := 64) rfl ?_); refine goesL_ (some 9) rfl rfl Tryd.func64 kk rfl #[.agg #[.int .i64 a0_0, .int .i64 a0_1], .agg #[.int .i64 a1_0, .int .i64 a1_1]] rfl (by (try simp only [List.map_toArray, List.map_cons, List.map_nil]); first | done | rfl | (simp only [List.length_drop, List.length_take]; rfl)) ?_; (with_reducible refine (congr_two.calls k a0_0 a0_1 a1_0 a1_1 none _ A3.out (am (ErrAt.below hE2.out pw)).out (am (ErrAt.below hE3.out pw)).out).mono ?_); rintro e w10 ⟨rfl, hb⟩; refine ⟨_, rfl, ?_⟩; have n0_ := bb BK150 hb; have n1_ := bb BK151 hb; have n2_ := am (below_step pw hb); clear BK150; clear BK151; clear HB; have BK150 := n0_; have BK151 := n1_; have HB := n2_; clear n0_ n1_ n2_; (try clear hb); (try clear hb2); (try clear hk); (try clear hi); (try simp only [errW_none, errW_some]); have hcz11_0 : w10.cell? ⟨gb151, 0, none⟩ = some (.int .i64 a1_0) := bc BK151 0; have hcz11_1 : w10.cell? ⟨gb151, 1, none⟩ = some (.int .i64 a1_1) := bc BK151 1; have hfz11_0 := blk_frozen BK151.out 0; have hfz11_1 := blk_frozen BK151.out 1; have hcz12_0 : w10.cell? ⟨gb150, 0, none⟩ = some (.int .i64 a0_0) := bc BK150 0; have hcz12_1 : w10.cell? ⟨gb150, 1, none⟩ = some (.int .i64 a0_1) := bc BK150 1; have hfz12_0 := blk_frozen BK150.out 0; have hfz12_1 := blk_frozen BK150.out 1))
   go_ret2
   exact ⟨pe, pw⟩
  rw [if_neg c4] at H
  have c4b0 : (a1_1 == 0) = false := beq_eq_false_iff_ne.mpr c4
  have c4b1 : (a1_1 != 0) = true := bne_iff_ne.mpr c4
  by_cases c13 : (Int.tmod a0_1 a1_1) = 0
  ·rw [if_pos c13] at H
   have c13b0 : ((Int.tmod a0_1 a1_1) == 0) = true := beq_iff_eq.mpr c13
   have c13b1 : ((Int.tmod a0_1 a1_1) != 0) = false := bne_eq_false_iff_eq.mpr c13
   clear c13
   replace H := Option.bind_eq_some_iff.mp H
   obtain ⟨t154, A140, H⟩ := H
   replace H : (some (t154, none)) = some (r1, r2) := H
   have A14 := am A140
   clear A140
   simp only [Option.some.injEq, Prod.mk.injEq] at H
   obtain ⟨rfl, rfl⟩ := H
   go_enter Tryd.func42, Tryd.ntmps42
   go_wp2_with (first | ((with_reducible refine gate_dst (N := 2) rfl ?_); refine box_event ?hg (N := 2) ?hd (cs := #[.int .i64 a0_0, .int .i64 a0_1]) (t := 24) ?hr ?_; (case hd => rfl); (case hg => rfl); (case hr => first | (go_simp; done) | (go_simp; rfl)); intro gb150 hg w15 hbox hb; have n0_ := am (below_step pw hb); have n1_ := am (hbox); have n2_ := am ((by rw [hg]; exact (below_size pw) : w.heap.size ≤ gb150)); have n3_ := am ((by rw [hg]; exact (below_size pw) : w.heap.size ≤ gb150)); clear HB; have HB := n0_; have BK150 := n1_; have GW150 := n2_; have GE150 := n3_; clear n0_ n1_ n2_ n3_; clear hb hbox hg) | ((with_reducible refine gate_dst (N := 3) rfl ?_); refine box_event ?hg (N := 3) ?hd (cs := #[.int .i64 a1_0, .int .i64 a1_1]) (t := 24) ?hr ?_; (case hd => rfl); (case hg => rfl); (case hr => first | (go_simp; done) | (go_simp; rfl)); intro gb151 hg w16 hbox hb; have n0_ := bb BK150 hb; have n1_ := am (below_step pw hb); have n2_ := am (hbox); have n3_ := am ((by rw [hg]; exact (below_size pw) : w.heap.size ≤ gb151)); have n4_ := am ((by rw [hg]; exact (below_size pw) : w.heap.size ≤ gb151)); have n5_ := am ((by rw [hg]; exact Nat.ne_of_lt (blk_lt pk) : gb150 ≠ gb151)); have n6_ := am ((by rw [hg]; exact Nat.ne_of_gt (blk_lt pk) : gb151 ≠ gb150)); clear BK150; clear HB; have BK150 := n0_; have HB := n1_; have BK151 := n2_; have GW151 := n3_; have GE151 := n4_; have NB150_151 := n5_; have NB151_150 := n6_; clear n0_ n1_ n2_ n3_ n4_ n5_ n6_; clear hb hbox hg; have hnb17 := NB150_151.out; have hnc17 := NB151_150.out; have hcz18_0 : w16.cell? ⟨gb150, 0, none⟩ = some (.int .i64 a0_0) := bc BK150 0; have hcz18_1 : w16.cell? ⟨gb150, 1, none⟩ = some (.int .i64 a0_1) := bc BK150 1; have hfz18_0 := blk_frozen BK150.out 0; have hfz18_1 := blk_frozen BK150.out 1; have hcz19_0 : w16.cell? ⟨gb151, 0, none⟩ = some (.int .i64 a1_0) := bc BK151 0; have hcz19_1 : w16.cell? ⟨gb151, 1, none⟩ = some (.int .i64 a1_1) := bc BK151 1; have hfz19_0 := blk_frozen BK151.out 0; have hfz19_1 := blk_frozen BK151.out 1) | ((with_reducible refine gate_callee (f := 64) rfl ?_); refine goesL_ (some 9) rfl rfl Tryd.func64 kk rfl #[.agg #[.int .i64 a0_0, .int .i64 a0_1], .agg #[.int .i64 a1_0, .int .i64 a1_1]] rfl (by (try simp only [List.map_toArray, List.map_cons, List.map_nil]); first | done | rfl | (simp only [List.length_drop, List.length_take]; rfl)) ?_; (with_reducible refine (congr_two.calls k a0_0 a0_1 a1_0 a1_1 none _ A3.out (am (ErrAt.below hE2.out pw)).out (am (ErrAt.below hE3.out pw)).out).mono ?_); rintro e w20 ⟨rfl, hb⟩; refine ⟨_, rfl, ?_⟩; have n0_ := bb BK150 hb; have n1_ := bb BK151 hb; have n2_ := am (below_step pw hb); clear BK150; clear BK151; clear HB; have BK150 := n0_; have BK151 := n1_; have HB := n2_; clear n0_ n1_ n2_; (try clear hb); (try clear hb2); (try clear hk); (try clear hi); (try simp only [errW_none, errW_some]); have hcz21_0 : w20.cell? ⟨gb151, 0, none⟩ = some (.int .i64 a1_0) := bc BK151 0; have hcz21_1 : w20.cell? ⟨gb151, 1, none⟩ = some (.int .i64 a1_1) := bc BK151 1; have hfz21_0 := blk_frozen BK151.out 0; have hfz21_1 := blk_frozen BK151.out 1; have hcz22_0 : w20.cell? ⟨gb150, 0, none⟩ = some (.int .i64 a0_0) := bc BK150 0; have hcz22_1 : w20.cell? ⟨gb150, 1, none⟩ = some (.int .i64 a0_1) := bc BK150 1; have hfz22_0 := blk_frozen BK150.out 0; have hfz22_1 := blk_frozen BK150.out 1) | (go_at_call 19; (with_reducible refine (congr_Has.calls k a1_0 a1_1 a0_0 t154 _ A14.out (am (ErrAt.below hE2.out pw)).out (am (ErrAt.below hE3.out pw)).out).mono ?_); rintro e w23 ⟨rfl, hb⟩; have n0_ := bb BK150 hb; have n1_ := bb BK151 hb; have n2_ := am (below_step pw hb); clear BK150; clear BK151; clear HB; have BK150 := n0_; have BK151 := n1_; have HB := n2_; clear n0_ n1_ n2_; (try clear hb); (try clear hb2); (try clear hk); (try clear hi)))
   go_ret2
   exact ⟨pe, pw⟩
  rw [if_neg c13] at H
  have c13b0 : ((Int.tmod a0_1 a1_1) == 0) = false := beq_eq_false_iff_ne.mpr c13
  have c13b1 : ((Int.tmod a0_1 a1_1) != 0) = true := bne_iff_ne.mpr c13
  simp only [Option.some.injEq, Prod.mk.injEq] at H
  obtain ⟨rfl, rfl⟩ := H
  go_enter Tryd.func42, Tryd.ntmps42
  go_wp2_with (first | ((with_reducible refine gate_dst (N := 2) rfl ?_); refine box_event ?hg (N := 2) ?hd (cs := #[.int .i64 a0_0, .int .i64 a0_1]) (t := 24) ?hr ?_; (case hd => rfl); (case hg => rfl); (case hr => first | (go_simp; done) | (go_simp; rfl)); intro gb150 hg w24 hbox hb; have n0_ := am (below_step pw hb); have n1_ := am (hbox); have n2_ := am ((by rw [hg]; exact (below_size pw) : w.heap.size ≤ gb150)); have n3_ := am ((by rw [hg]; exact (below_size pw) : w.heap.size ≤ gb150)); clear HB; have HB := n0_; have BK150 := n1_; have GW150 := n2_; have GE150 := n3_; clear n0_ n1_ n2_ n3_; clear hb hbox hg) | ((with_reducible refine gate_dst (N := 3) rfl ?_); refine box_event ?hg (N := 3) ?hd (cs := #[.int .i64 a1_0, .int .i64 a1_1]) (t := 24) ?hr ?_; (case hd => rfl); (case hg => rfl); (case hr => first | (go_simp; done) | (go_simp; rfl)); intro gb151 hg w25 hbox hb; have n0_ := bb BK150 hb; have n1_ := am (below_step pw hb); have n2_ := am (hbox); have n3_ := am ((by rw [hg]; exact (below_size pw) : w.heap.size ≤ gb151)); have n4_ := am ((by rw [hg]; exact (below_size pw) : w.heap.size ≤ gb151)); have n5_ := am ((by rw [hg]; exact Nat.ne_of_lt (blk_lt pk) : gb150 ≠ gb151)); have n6_ := am ((by rw [hg]; exact Nat.ne_of_gt (blk_lt pk) : gb151 ≠ gb150)); clear BK150; clear HB; have BK150 := n0_; have HB := n1_; have BK151 := n2_; have GW151 := n3_; have GE151 := n4_; have NB150_151 := n5_; have NB151_150 := n6_; clear n0_ n1_ n2_ n3_ n4_ n5_ n6_; clear hb hbox hg; have hnb26 := NB150_151.out; have hnc26 := NB151_150.out; have hcz27_0 : w25.cell? ⟨gb150, 0, none⟩ = some (.int .i64 a0_0) := bc BK150 0; have hcz27_1 : w25.cell? ⟨gb150, 1, none⟩ = some (.int .i64 a0_1) := bc BK150 1; have hfz27_0 := blk_frozen BK150.out 0; have hfz27_1 := blk_frozen BK150.out 1; have hcz28_0 : w25.cell? ⟨gb151, 0, none⟩ = some (.int .i64 a1_0) := bc BK151 0; have hcz28_1 : w25.cell? ⟨gb151, 1, none⟩ = some (.int .i64 a1_1) := bc BK151 1; have hfz28_0 := blk_frozen BK151.out 0; have hfz28_1 := blk_frozen BK151.out 1) | ((with_reducible refine gate_callee (f := 64) rfl ?_); refine goesL_ (some 9) rfl rfl Tryd.func64 kk rfl #[.agg #[.int .i64 a0_0, .int .i64 a0_1], .agg #[.int .i64 a1_0, .int .i64 a1_1]] rfl (by (try simp only [List.map_toArray, List.map_cons, List.map_nil]); first | done | rfl | (simp only [List.length_drop, List.length_take]; rfl)) ?_; (with_reducible refine (congr_two.calls k a0_0 a0_1 a1_0 a1_1 none _ A3.out (am (ErrAt.below hE2.out pw)).out (am (ErrAt.below hE3.out pw)).out).mono ?_); rintro e w29 ⟨rfl, hb⟩; refine ⟨_, rfl, ?_⟩; have n0_ := bb BK150 hb; have n1_ := bb BK151 hb; have n2_ := am (below_step pw hb); clear BK150; clear BK151; clear HB; have BK150 := n0_; have BK151 := n1_; have HB := n2_; clear n0_ n1_ n2_; (try clear hb); (try clear hb2); (try clear hk); (try clear hi); (try simp only [errW_none, errW_some]); have hcz30_0 : w29.cell? ⟨gb151, 0, none⟩ = some (.int .i64 a1_0) := bc BK151 0; have hcz30_1 : w29.cell? ⟨gb151, 1, none⟩ = some (.int .i64 a1_1) := bc BK151 1; have hfz30_0 := blk_frozen BK151.out 0; have hfz30_1 := blk_frozen BK151.out 1; have hcz31_0 : w29.cell? ⟨gb150, 0, none⟩ = some (.int .i64 a0_0) := bc BK150 0; have hcz31_1 : w29.cell? ⟨gb150, 1, none⟩ = some (.int .i64 a0_1) := bc BK150 1; have hfz31_0 := blk_frozen BK150.out 0; have hfz31_1 := blk_frozen BK150.out 1))
  go_ret2
  exact ⟨pe, pw⟩
 have H1 : (some (false, some q153)) = some (r1, r2) := by rw [if_neg (show ¬ (some q153).isNone = true by simp)] at H; exact H
 clear H
 have H := H1
 clear H1
 try simp only [errW_none, errW_some]
 simp only [Option.some.injEq, Prod.mk.injEq] at H
 obtain ⟨rfl, rfl⟩ := H
 go_enter Tryd.func42, Tryd.ntmps42
 go_wp2_with (first | ((with_reducible refine gate_dst (N := 2) rfl ?_); refine box_event ?hg (N := 2) ?hd (cs := #[.int .i64 a0_0, .int .i64 a0_1]) (t := 24) ?hr ?_; (case hd => rfl); (case hg => rfl); (case hr => first | (go_simp; done) | (go_simp; rfl)); intro gb150 hg w32 hbox hb; have n0_ := am (below_step pw hb); have n1_ := am (hbox); have n2_ := am ((by rw [hg]; exact (below_size pw) : w.heap.size ≤ gb150)); have n3_ := am ((by rw [hg]; exact (below_size pw) : w.heap.size ≤ gb150)); clear HB; have HB := n0_; have BK150 := n1_; have GW150 := n2_; have GE150 := n3_; clear n0_ n1_ n2_ n3_; clear hb hbox hg) | ((with_reducible refine gate_dst (N := 3) rfl ?_); refine box_event ?hg (N := 3) ?hd (cs := #[.int .i64 a1_0, .int .i64 a1_1]) (t := 24) ?hr ?_; (case hd => rfl); (case hg => rfl); (case hr => first | (go_simp; done) | (go_simp; rfl)); intro gb151 hg w33 hbox hb; have n0_ := bb BK150 hb; have n1_ := am (below_step pw hb); have n2_ := am (hbox); have n3_ := am ((by rw [hg]; exact (below_size pw) : w.heap.size ≤ gb151)); have n4_ := am ((by rw [hg]; exact (below_size pw) : w.heap.size ≤ gb151)); have n5_ := am ((by rw [hg]; exact Nat.ne_of_lt (blk_lt pk) : gb150 ≠ gb151)); have n6_ := am ((by rw [hg]; exact Nat.ne_of_gt (blk_lt pk) : gb151 ≠ gb150)); clear BK150; clear HB; have BK150 := n0_; have HB := n1_; have BK151 := n2_; have GW151 := n3_; have GE151 := n4_; have NB150_151 := n5_; have NB151_150 := n6_; clear n0_ n1_ n2_ n3_ n4_ n5_ n6_; clear hb hbox hg; have hnb34 := NB150_151.out; have hnc34 := NB151_150.out; have hcz35_0 : w33.cell? ⟨gb150, 0, none⟩ = some (.int .i64 a0_0) := bc BK150 0; have hcz35_1 : w33.cell? ⟨gb150, 1, none⟩ = some (.int .i64 a0_1) := bc BK150 1; have hfz35_0 := blk_frozen BK150.out 0; have hfz35_1 := blk_frozen BK150.out 1; have hcz36_0 : w33.cell? ⟨gb151, 0, none⟩ = some (.int .i64 a1_0) := bc BK151 0; have hcz36_1 : w33.cell? ⟨gb151, 1, none⟩ = some (.int .i64 a1_1) := bc BK151 1; have hfz36_0 := blk_frozen BK151.out 0; have hfz36_1 := blk_frozen BK151.out 1) | ((with_reducible refine gate_callee (f := 64) rfl ?_); refine goesL_ (some 9) rfl rfl Tryd.func64 kk rfl #[.agg #[.int .i64 a0_0, .int .i64 a0_1], .agg #[.int .i64 a1_0, .int .i64 a1_1]] rfl (by (try simp only [List.map_toArray, List.map_cons, List.map_nil]); first | done | rfl | (simp only [List.length_drop, List.length_take]; rfl)) ?_; (with_reducible refine (congr_two.calls k a0_0 a0_1 a1_0 a1_1 (some q153) _ A3.out (am (ErrAt.below hE2.out pw)).out (am (ErrAt.below hE3.out pw)).out).mono ?_); rintro e w37 ⟨rfl, hb⟩; refine ⟨_, rfl, ?_⟩; have n0_ := bb BK150 hb; have n1_ := bb BK151 hb; have n2_ := am (below_step pw hb); clear BK150; clear BK151; clear HB; have BK150 := n0_; have BK151 := n1_; have HB := n2_; clear n0_ n1_ n2_; (try clear hb); (try clear hb2); (try clear hk); (try clear hi); (try simp only [errW_none, errW_some])))
 go_ret2
 exact ⟨pe, pw⟩

/-! ### congr_Within, where there is no error -/
def congr_Within_ok.f (k : Nat) (a0_0 : Int) (a0_1 : Int) (a1_0 : Int) (a1_1 : Int) : Option (Bool) := (congr_Within.f k a0_0 a0_1 a1_0 a1_1).bind fun t_ => match t_ with | (q0_, q1_) => if q1_.isNone = true then some q0_ else none
theorem congr_Within_ok.calls [EA] (k : Nat) (a0_0 : Int) (a0_1 : Int) (a1_0 : Int) (a1_1 : Int) (r1 : Bool) (w : World) (h : congr_Within_ok.f k a0_0 a0_1 a1_0 a1_1 = some r1) (h2_ : ErrAt 2 1 w) (h3_ : ErrAt 3 0 w) :
  Calls Tryd.prog 42 #[.agg #[.int .i64 a0_0, .int .i64 a0_1], .agg #[.int .i64 a1_0, .int .i64 a1_1]] w fun e w' => e = .returned (.tuple #[.bool r1, .nilIface]) ∧ Below w.heap.size w w' := by
 obtain ⟨t_, h1_, h2_⟩ := Option.bind_eq_some_iff.mp h
 obtain ⟨q0_, q1_⟩ := t_
 cases q1_ with
 | some c_ => exact absurd h2_ (by simp)
 | none =>
  simp only [Option.isNone_none, if_true, Option.some.injEq, Prod.mk.injEq] at h2_
  obtain rfl := h2_
  exact congr_Within.calls k a0_0 a0_1 a1_0 a1_1 _ none w h1_ h2_ h3_
theorem congr_Within_ok.mono : ∀ a0_ a1_ a2_ a3_ k, LeO (congr_Within_ok.f k a0_ a1_ a2_ a3_) (congr_Within_ok.f (k + 1) a0_ a1_ a2_ a3_) := by
 intro a0_ a1_ a2_ a3_ k
 unfold congr_Within_ok.f
 exact LeO.bind (congr_Within.mono a0_ a1_ a2_ a3_ k) (fun _ => LeO.refl _)

/-! ### congr_Add: function 43 -/
def congr_Add.f (k : Nat) (a0_0 : Int) (a0_1 : Int) (a1_0 : Int) (a1_1 : Int) : Option (Int × Int × Option Int) := (congr_two.f k a0_0 a0_1 a1_0 a1_1).bind fun t158 => (if t158.isNone = true then ((congr_gcd.f k (([a0_1, a1_1] : List Int))).bind fun t163 => ((congr_told.f k (wrap64 (a0_0 + a1_0)) t163).bind fun bt164 => (some (bt164.1, bt164.2, none)))) else (some (0, 0, some (t158.getD 0))))
theorem congr_Add.mono : ∀ a0 a1 a2 a3 k, LeO (congr_Add.f k a0 a1 a2 a3) (congr_Add.f (k + 1) a0 a1 a2 a3) := by
 intro a0 a1 a2 a3 k
 unfold congr_Add.f
 repeat' first
   | (with_reducible exact congr_gcd.mono _ _)
   | (with_reducible exact congr_told.mono _ _ _)
   | (with_reducible exact congr_two.mono _ _ _ _ _)
   | (with_reducible exact LeO.refl _)
   | (with_reducible exact LeO.none _)
   | (with_reducible refine LeO.ite ?_ ?_)
   | (with_reducible refine LeO.bind ?_ (fun _ => ?_))
   | exact congr_gcd.mono _ _
   | exact congr_told.mono _ _ _
   | exact congr_two.mono _ _ _ _ _
   | exact LeO.none _
   | refine LeO.ite ?_ ?_
   | refine LeO.bind ?_ (fun _ => ?_)
def congr_Add.T4 : Bool × List (List Nat × List Nat) := (true, [([], []), ([0], [0]), ([], []), ([2], [2]), ([1, 3], [1, 3]), ([], []), ([5], [5]), ([], []), ([7], [7]), ([6, 8], [6, 8]), ([9], [9]), ([4, 10, 10], [4, 10]), ([11, 11, 0, 1, 2, 3, 4, 5, 6, 7, 8, 9, 10, 11], [11]), ([12, 0, 1, 2, 3, 4, 5, 6, 7, 8, 9, 10, 11, 12], [])])
def congr_Add.B4 : List Nat := [0, 1, 0, 4, 15, 0, 32, 0, 128, 480, 992, 2047, 4095, 8191]
theorem congr_Add.tab4 : rtab .any (opsOf Tryd.f43 4) = congr_Add.T4 := by kernel_rfl
theorem congr_Add.bits4 : waitsOk congr_Add.T4.2 congr_Add.B4 = true := by kernel_rfl
set_option maxHeartbeats 8000000 in
set_option maxRecDepth 100000 in
theorem congr_Add.calls [EA] (k : Nat) (a0_0 : Int) (a0_1 : Int) (a1_0 : Int) (a1_1 : Int) (r1 : Int) (r2 : Int) (r3 : Option Int) (w : World) (h : congr_Add.f k a0_0 a0_1 a1_0 a1_1 = some (r1, r2, r3)) (h2_ : ErrAt 2 1 w) (h3_ : ErrAt 3 0 w) :
  Calls Tryd.prog 43 #[.agg #[.int .i64 a0_0, .int .i64 a0_1], .agg #[.int .i64 a1_0, .int .i64 a1_1]] w fun e w' => e = .returned (.tuple #[.agg #[.int .i64 r1, .int .i64 r2], errW r3]) ∧ Below w.heap.size w w' := by
 have hE2 := am h2_
 clear h2_
 have hE3 := am h3_
 clear h3_
 have hu24 := Tryd.underlying24
 have hu26 := Tryd.underlying26
 have HB := am (Below.refl w.heap.size w)
 have H : ((congr_two.f k a0_0 a0_1 a1_0 a1_1).bind fun t158 => (if t158.isNone = true then ((congr_gcd.f k (([a0_1, a1_1] : List Int))).bind fun t163 => ((congr_told.f k (wrap64 (a0_0 + a1_0)) t163).bind fun bt164 => (some (bt164.1, bt164.2, none)))) else (some (0, 0, some (t158.getD 0))))) = some (r1, r2, r3) := h
 clear h
 replace H := Option.bind_eq_some_iff.mp H
 obtain ⟨t158, A30, H⟩ := H
 replace H : (if t158.isNone = true then ((congr_gcd.f k (([a0_1, a1_1] : List Int))).bind fun t163 => ((congr_told.f k (wrap64 (a0_0 + a1_0)) t163).bind fun bt164 => (some (bt164.1, bt164.2, none)))) else (some (0, 0, some (t158.getD 0)))) = some (r1, r2, r3) := H
 have A3 := am A30
 clear A30
 rcases t158 with _ | q159
 ·have H1 : ((congr_gcd.f k (([a0_1, a1_1] : List Int))).bind fun t163 => ((congr_told.f k (wrap64 (a0_0 + a1_0)) t163).bind fun bt164 => (some (bt164.1, bt164.2, none)))) = some (r1, r2, r3) := by rw [if_pos (show (none : Option Int).isNone = true by rfl)] at H; exact H
  clear H
  have H := H1
  clear H1
  try simp only [errW_none, errW_some]
  obtain ⟨y160, hy160⟩ : ∃ y_ : List Int, y_ = (([a0_1, a1_1] : List Int)) := ⟨_, rfl⟩
  replace H : ((congr_gcd.f k y160).bind fun t163 => ((congr_told.f k (wrap64 (a0_0 + a1_0)) t163).bind fun bt164 => (some (bt164.1, bt164.2, none)))) = some (r1, r2, r3) := by first | (rw [hy160]; with_reducible exact H) | (have H2_ := (Option.bind_some _ _).symm.trans H; rw [hy160]; with_reducible exact H2_) | (have H2_ := (Option.bind_some _ _).symm.trans H; with_reducible exact H2_) | with_reducible exact H | (rw [hy160]; exact H) | exact H
  have Ny160 := am hy160
  clear hy160
  replace H := Option.bind_eq_some_iff.mp H
  obtain ⟨t163, A40, H⟩ := H
  replace H : ((congr_told.f k (wrap64 (a0_0 + a1_0)) t163).bind fun bt164 => (some (bt164.1, bt164.2, none))) = some (r1, r2, r3) := H
  have A4 := am A40
  clear A40
  replace H := Option.bind_eq_some_iff.mp H
  obtain ⟨⟨t164, t165⟩, A50, H⟩ := H
  replace H : (some (t164, t165, none)) = some (r1, r2, r3) := H
  have A5 := am A50
  clear A50
  simp only [Option.some.injEq, Prod.mk.injEq] at H
  obtain ⟨rfl, rfl, rfl⟩ := H
  go_enter Tryd.func43, Tryd.ntmps43
  try go_wp2_with (first | ((with_reducible refine gate_dst (N := 2) rfl ?_); refine box_event ?hg (N := 2) ?hd (cs := #[.int .i64 a0_0, .int .i64 a0_1]) (t := 24) ?hr ?_; (case hd => rfl); (case hg => rfl); (case hr => first | (go_simp; done) | (go_simp; rfl)); intro gb155 hg w6 hbox hb; have n0_ := am (below_step pw hb); have n1_ := am (hbox); have n2_ := am ((by rw [hg]; exact (below_size pw) : w.heap.size ≤ gb155)); have n3_ := am ((by rw [hg]; exact (below_size pw) : w.heap.size ≤ gb155)); clear HB; have HB := n0_; have BK155 := n1_; have GW155 := n2_; have GE155 := n3_; clear n0_ n1_ n2_ n3_; clear hb hbox hg) | ((with_reducible refine gate_dst (N := 3) rfl ?_); refine box_event ?hg (N := 3) ?hd (cs := #[.int .i64 a1_0, .int .i64 a1_1]) (t := 24) ?hr ?_; (case hd => rfl); (case hg => rfl); (case hr => first | (go_simp; done) | (go_simp; rfl)); intro gb156 hg w7 hbox hb; have n0_ := bb BK155 hb; have n1_ := am (below_step pw hb); have n2_ := am (hbox); have n3_ := am ((by rw [hg]; exact (below_size pw) : w.heap.size ≤ gb156)); have n4_ := am ((by rw [hg]; exact (below_size pw) : w.heap.size ≤ gb156)); have n5_ := am ((by rw [hg]; exact Nat.ne_of_lt (blk_lt pk) : gb155 ≠ gb156)); have n6_ := am ((by rw [hg]; exact Nat.ne_of_gt (blk_lt pk) : gb156 ≠ gb155)); clear BK155; clear HB; have BK155 := n0_; have HB := n1_; have BK156 := n2_; have GW156 := n3_; have GE156 := n4_; have NB155_156 := n5_; have NB156_155 := n6_; clear n0_ n1_ n2_ n3_ n4_ n5_ n6_; clear hb hbox hg) | ((with_reducible refine gate_dst (N := 4) rfl ?_); refine box_event ?hg (N := 4) ?hd (cs := #[.int .i64 0, .int .i64 0]) (t := 24) ?hr ?_; (case hd => rfl); (case hg => rfl); (case hr => first | (go_simp; done) | (go_simp; rfl)); intro gb157 hg w8 hbox hb; have n0_ := bb BK155 hb; have n1_ := bb BK156 hb; have n2_ := am (below_step pw hb); have n3_ := am (hbox); have n4_ := am ((by rw [hg]; exact (below_size pw) : w.heap.size ≤ gb157)); have n5_ := am ((by rw [hg]; exact (below_size pw) : w.heap.size ≤ gb157)); have n6_ := am ((by rw [hg]; exact Nat.ne_of_lt (blk_lt pk) : gb155 ≠ gb157)); have n7_ := am ((by rw [hg]; exact Nat.ne_of_gt (blk_lt pk) : gb157 ≠ gb155)); have n8_ := am ((by rw [hg]; exact Nat.ne_of_lt (blk_lt pk) : gb156 ≠ gb157)); have n9_ := am ((by rw [hg]; exact Nat.ne_of_gt (blk_lt pk) : gb157 ≠ gb156)); clear BK155; clear BK156; clear HB; have BK155 := n0_; have BK156 := n1_; have HB := n2_; have BK157 := n3_; have GW157 := n4_; have GE157 := n5_; have NB155_157 := n6_; have NB157_155 := n7_; have NB156_157 := n8_; have NB157_156 := n9_; clear n0_ n1_ n2_ n3_ n4_ n5_ n6_ n7_ n8_ n9_; clear hb hbox hg; have hnb9 := NB155_156.out; have hnc9 := NB156_155.out; have hnb10 := NB155_157.out; have hnc10 := NB157_155.out; have hcz11_0 : w8.cell? ⟨gb155, 0, none⟩ = some (.int .i64 a0_0) := bc BK155 0; have hcz11_1 : w8.cell? ⟨gb155, 1, none⟩ = some (.int .i64 a0_1) := bc BK155 1; have hfz11_0 := blk_frozen BK155.out 0; have hfz11_1 := blk_frozen BK155.out 1; have hnb12 := NB156_157.out; have hnc12 := NB157_156.out; have hcz13_0 : w8.cell? ⟨gb156, 0, none⟩ = some (.int .i64 a1_0) := bc BK156 0; have hcz13_1 : w8.cell? ⟨gb156, 1, none⟩ = some (.int .i64 a1_1) := bc BK156 1; have hfz13_0 := blk_frozen BK156.out 0; have hfz13_1 := blk_frozen BK156.out 1) | ((with_reducible refine gate_callee (f := 64) rfl ?_); refine goesL_ (some 9) rfl rfl Tryd.func64 kk rfl #[.agg #[.int .i64 a0_0, .int .i64 a0_1], .agg #[.int .i64 a1_0, .int .i64 a1_1]] rfl (by (try simp only [List.map_toArray, List.map_cons, List.map_nil]); first | done | rfl | (simp only [List.length_drop, List.length_take]; rfl)) ?_; (with_reducible refine (congr_two.calls k a0_0 a0_1 a1_0 a1_1 none _ A3.out (am (ErrAt.below hE2.out pw)).out (am (ErrAt.below hE3.out pw)).out).mono ?_); rintro e w14 ⟨rfl, hb⟩; refine ⟨_, rfl, ?_⟩; have n0_ := bb BK155 hb; have n1_ := bb BK156 hb; have n2_ := bb BK157 hb; have n3_ := am (below_step pw hb); clear BK155; clear BK156; clear BK157; clear HB; have BK155 := n0_; have BK156 := n1_; have BK157 := n2_; have HB := n3_; clear n0_ n1_ n2_ n3_; (try clear hb); (try clear hb2); (try clear hk); (try clear hi); (try simp only [errW_none, errW_some])))
  have n0_ := am (blk_drew BK155.out)
  have n1_ := am (blk_drew BK156.out)
  have n2_ := am (blk_drew BK157.out)
  have n3_ := am (below_drew1 HB.out)
  clear BK155 BK156 BK157 HB
  revert n0_ n1_ n2_ n3_
  intro BK155 BK156 BK157 HB
  refine start_ (n := 14) (S := fun w' => w'.cell? ⟨gb155, 0, none⟩ = some (.int .i64 a0_0) ∧ w'.cell? ⟨gb155, 1, none⟩ = some (.int .i64 a0_1) ∧ w'.cell? ⟨gb156, 0, none⟩ = some (.int .i64 a1_0) ∧ w'.cell? ⟨gb156, 1, none⟩ = some (.int .i64 a1_1)) (ds := []) #[false, false, false, false, false, false, false, false, false, false, false, false, false, false] kk rfl rfl ⟨bc BK155 0, bc BK155 1, bc BK156 0, bc BK156 1⟩ (fun hHeld => ?_); refine with_tabW congr_Add.tab4 congr_Add.bits4 (fun HT_ HW_ => ?_)
  generalize w14.drew = w15 at BK155 BK156 BK157 HB hHeld ⊢
  refine pure_ (i := 0) (N := some 14) (v := ?_) (a' := ?_) #[true, false, false, false, false, false, false, false, false, false, false, false, false, false] rfl rfl (any_of HT_.out kk) (fun _ _ _ h => h) (Or.inl ⟨by rfl, ?_⟩) ?_ ?_
  rotate_left
  ·intro w'
   go_simp
   with_reducible rfl
  rotate_left
  ·simp only [Act.put, List.setIfInBounds_toArray, List.set_cons_zero, List.set_cons_succ, i64_w, i32_w]
   rfl
  refine pure_ (i := 2) (N := some 16) (v := ?_) (a' := ?_) #[true, false, true, false, false, false, false, false, false, false, false, false, false, false] rfl rfl (any_of HT_.out kk) (fun _ _ _ h => h) (Or.inl ⟨by rfl, ?_⟩) ?_ ?_
  rotate_left
  ·intro w'
   go_simp
   with_reducible rfl
  rotate_left
  ·simp only [Act.put, List.setIfInBounds_toArray, List.set_cons_zero, List.set_cons_succ, i64_w, i32_w]
   rfl
  refine pure_ (i := 5) (N := some 19) (v := ?_) (a' := ?_) #[true, false, true, false, false, true, false, false, false, false, false, false, false, false] rfl rfl (any_of HT_.out kk) (fun _ _ _ h => h) (Or.inl ⟨by rfl, ?_⟩) ?_ ?_
  rotate_left
  ·intro w'
   go_simp
   with_reducible rfl
  rotate_left
  ·simp only [Act.put, List.setIfInBounds_toArray, List.set_cons_zero, List.set_cons_succ, i64_w, i32_w]
   rfl
  refine pure_ (i := 7) (N := some 21) (v := ?_) (a' := ?_) #[true, false, true, false, false, true, false, true, false, false, false, false, false, false] rfl rfl (any_of HT_.out kk) (fun _ _ _ h => h) (Or.inl ⟨by rfl, ?_⟩) ?_ ?_
  rotate_left
  ·intro w'
   go_simp
   with_reducible rfl
  rotate_left
  ·simp only [Act.put, List.setIfInBounds_toArray, List.set_cons_zero, List.set_cons_succ, i64_w, i32_w]
   rfl
  refine take_ (i := 1) (N := some 15) (v := ?_) (a' := ?_) #[true, true, true, false, false, true, false, true, false, false, false, false, false, false] rfl rfl (take_ofW HT_.out HW_.out kk) (fun _ _ _ h => h) (Or.inl ⟨by rfl, ?_⟩) hHeld ?_ ?_
  rotate_left
  ·rintro w' ⟨s0, s1, s2, s3⟩
   go_simp
   with_reducible rfl
  rotate_left
  ·simp only [Act.put, List.setIfInBounds_toArray, List.set_cons_zero, List.set_cons_succ, i64_w, i32_w]
   rfl
  refine take_ (i := 3) (N := some 17) (v := ?_) (a' := ?_) #[true, true, true, true, false, true, false, true, false, false, false, false, false, false] rfl rfl (take_ofW HT_.out HW_.out kk) (fun _ _ _ h => h) (Or.inl ⟨by rfl, ?_⟩) hHeld ?_ ?_
  rotate_left
  ·rintro w' ⟨s0, s1, s2, s3⟩
   go_simp
   with_reducible rfl
  rotate_left
  ·simp only [Act.put, List.setIfInBounds_toArray, List.set_cons_zero, List.set_cons_succ, i64_w, i32_w]
   rfl
  refine pure_ (i := 4) (N := some 18) (v := ?_) (a' := ?_) #[true, true, true, true, true, true, false, true, false, false, false, false, false, false] rfl rfl (any_of HT_.out kk) (fun _ _ _ h => h) (Or.inl ⟨by rfl, ?_⟩) ?_ ?_
  rotate_left
  ·intro w'
   go_simp
   with_reducible rfl
  rotate_left
  ·simp only [Act.put, List.setIfInBounds_toArray, List.set_cons_zero, List.set_cons_succ, i64_w, i32_w]
   rfl
  refine take_ (i := 6) (N := some 20) (v := ?_) (a' := ?_) #[true, true, true, true, true, true, true, true, false, false, false, false, false, false] rfl rfl (take_ofW HT_.out HW_.out kk) (fun _ _ _ h => h) (Or.inl ⟨by rfl, ?_⟩) hHeld ?_ ?_
  rotate_left
  ·rintro w' ⟨s0, s1, s2, s3⟩
   go_simp
   with_reducible rfl
  rotate_left
  ·simp only [Act.put, List.setIfInBounds_toArray, List.set_cons_zero, List.set_cons_succ, i64_w, i32_w]
   rfl
  refine take_ (i := 8) (N := some 22) (v := ?_) (a' := ?_) #[true, true, true, true, true, true, true, true, true, false, false, false, false, false] rfl rfl (take_ofW HT_.out HW_.out kk) (fun _ _ _ h => h) (Or.inl ⟨by rfl, ?_⟩) hHeld ?_ ?_
  rotate_left
  ·rintro w' ⟨s0, s1, s2, s3⟩
   go_simp
   with_reducible rfl
  rotate_left
  ·simp only [Act.put, List.setIfInBounds_toArray, List.set_cons_zero, List.set_cons_succ, i64_w, i32_w]
   rfl
  refine one_ (i := 9) (N := some 23) #[true, true, true, true, true, true, true, true, true, true, false, false, false, false] rfl rfl (one_of HT_.out kk) (by decide) (fun K hK => ?_)
  refine Kd.R_lit_step (Kd.int .i64) _ 3 ?hg (N := 23) ?hd (xs := ([a0_1, a1_1] : List Int)) (inner := [.int .i64 a0_1, .int .i64 a1_1]) (ok := fun _ => True) (okp := fun _ => True) ?hr ?hp (fun _ hk => hk) trivial (Below.refl _ _) (Nat.le_refl _) (by simp) ?_; (case hd => rfl); (case hg => rfl); (case hr => first | (go_simp; done) | (go_simp; rfl)); (case hp => exact (Reps.one (show Kd.M (Kd.int .i64) _ _ _ a0_1 [.int .i64 a0_1] from rfl) (Reps.one (show Kd.M (Kd.int .i64) _ _ _ a1_1 [.int .i64 a1_1] from rfl) (Reps.none _ _))))
  intro v161 w16 ho17 hb hg_ hnew_
  clear hg_ hnew_
  (first | rw [← Ny160.out] at ho17 | (simp only [Int.reduceToNat] at ho17; rw [← Ny160.out] at ho17))
  have n0_ := am (Kd.R_lower ho17 (below_size pw))
  have n1_ := bb BK155 hb
  have n2_ := bb BK156 hb
  have n3_ := bb BK157 hb
  have n4_ := am (below_step pw hb)
  clear BK155 BK156 BK157 HB
  revert n0_ n1_ n2_ n3_ n4_
  intro HO162 BK155 BK156 BK157 HB
  clear hb ho17
  obtain ⟨Ao18, co18, eo18⟩ := Kd.R_slice HO162.out
  (first | subst eo18 | (injection eo18 with f1_ f2_ f3_; have f4_ := f1_.symm; have f5_ := f3_.symm; clear f1_ f2_ f3_; subst f4_; subst f5_))
  refine hK.out _ _ ⟨bc BK155 0, bc BK155 1, bc BK156 0, bc BK156 1⟩ (fun hHeld => ?_)
  clear hK K
  refine norm_ (a' := ?_) ?_ ?_
  rotate_left
  ·show Act.put _ (some 23) _ = _
   simp only [Act.put, List.setIfInBounds_toArray, List.set_cons_zero, List.set_cons_succ, i64_w, i32_w]
   rfl
  refine one_ (i := 10) (N := some 24) #[true, true, true, true, true, true, true, true, true, true, true, false, false, false] rfl rfl (one_of HT_.out kk) (by decide) (fun K hK => ?_)
  refine goes_ Tryd.func66 kk rfl #[.slice Ao18 y160.length co18] (by rfl) rfl rfl (by (try simp only [List.map_toArray, List.map_cons, List.map_nil]); first | done | rfl | (simp only [List.length_drop, List.length_take]; rfl)) ?_
  with_reducible refine (congr_gcd.calls k _ _ y160 t163 _ ?side1 ?side2 A4.out).mono ?_
  (case side1 => repeat (first | exact (Kd.R_reads' HO162.out).2.2 | (with_reducible refine Kd.C_alloc ?_ _) | (with_reducible refine Kd.C_drewN ?_ _) | (with_reducible refine Kd.C_drew ?_)))
  (case side2 => exact (Kd.R_reads' HO162.out).2.1)
  rintro e w19 ⟨rfl, hb⟩
  refine ⟨_, rfl, ?_⟩
  have n0_ := am (Kd.R_below (by (with_reducible repeat (first | apply Kd.R_alloc | apply Kd.R_drewN | apply Kd.R_drew)); exact HO162.out) hb)
  have n1_ := bb BK155 hb
  have n2_ := bb BK156 hb
  have n3_ := bb BK157 hb
  have n4_ := am (below_step pw hb)
  clear HO162 BK155 BK156 BK157 HB
  revert n0_ n1_ n2_ n3_ n4_
  intro HO162 BK155 BK156 BK157 HB
  (try clear hb)
  (try clear hb2)
  (try clear hk)
  (try clear hi)
  refine hK.out _ _ ⟨bc BK155 0, bc BK155 1, bc BK156 0, bc BK156 1⟩ (fun hHeld => ?_)
  clear hK K
  refine norm_ (a' := ?_) ?_ ?_
  rotate_left
  ·show Act.put _ (some 24) _ = _
   simp only [Act.put, List.setIfInBounds_toArray, List.set_cons_zero, List.set_cons_succ, i64_w, i32_w]
   rfl
  refine one_ (i := 11) (N := some 25) #[true, true, true, true, true, true, true, true, true, true, true, true, false, false] rfl rfl (one_of HT_.out kk) (by decide) (fun K hK => ?_)
  refine goes_ Tryd.func67 kk rfl #[.int .i64 (wrap64 (a0_0 + a1_0)), .int .i64 t163] (by rfl) rfl rfl (by (try simp only [List.map_toArray, List.map_cons, List.map_nil]); first | done | rfl | (simp only [List.length_drop, List.length_take]; rfl)) ?_
  with_reducible refine (congr_told.calls k (wrap64 (a0_0 + a1_0)) t163 t164 t165 _ A5.out).mono ?_
  rintro e w20 ⟨rfl, hb⟩
  refine ⟨_, rfl, ?_⟩
  have n0_ := am (Kd.R_below (by (with_reducible repeat (first | apply Kd.R_alloc | apply Kd.R_drewN | apply Kd.R_drew)); exact HO162.out) hb)
  have n1_ := bb BK155 hb
  have n2_ := bb BK156 hb
  have n3_ := bb BK157 hb
  have n4_ := am (below_step pw hb)
  clear HO162 BK155 BK156 BK157 HB
  revert n0_ n1_ n2_ n3_ n4_
  intro HO162 BK155 BK156 BK157 HB
  (try clear hb)
  (try clear hb2)
  (try clear hk)
  (try clear hi)
  refine hK.out _ _ ⟨bc BK155 0, bc BK155 1, bc BK156 0, bc BK156 1⟩ (fun hHeld => ?_)
  clear hK K
  refine norm_ (a' := ?_) ?_ ?_
  rotate_left
  ·show Act.put _ (some 25) _ = _
   simp only [Act.put, List.setIfInBounds_toArray, List.set_cons_zero, List.set_cons_succ, i64_w, i32_w]
   rfl
  refine one_ (i := 12) (N := none) #[true, true, true, true, true, true, true, true, true, true, true, true, true, false] rfl rfl (one_of HT_.out kk) (by decide) (fun K hK => ?_)
  have hs21 : w20.cell? ⟨gb157, 0, none⟩ = some (.int .i64 0) := bc BK157 0
  have hfs21 := blk_frozen BK157.out 0
  have hns21_0 := NB155_157.out
  have hns21_1 := NB156_157.out
  have hms21_0 := NB157_155.out
  have hms21_1 := NB157_156.out
  have hs22 : w20.cell? ⟨gb157, 1, none⟩ = some (.int .i64 0) := bc BK157 1
  have hfs22 := blk_frozen BK157.out 1
  have hns22_0 := NB155_157.out
  have hns22_1 := NB156_157.out
  have hms22_0 := NB157_155.out
  have hms22_1 := NB157_156.out
  refine skip_ (w1 := ?_) (by rfl) rfl ?_ ?_
  rotate_left
  ·go_simp
   rfl
  refine hK.out _ _ ⟨((cell_far (p := ⟨gb157, _, none⟩) NB155_157.out _).trans (((cell_far (p := ⟨gb157, _, none⟩) NB155_157.out _).trans (hHeld.1)))), ((cell_far (p := ⟨gb157, _, none⟩) NB155_157.out _).trans (((cell_far (p := ⟨gb157, _, none⟩) NB155_157.out _).trans (hHeld.2.1)))), ((cell_far (p := ⟨gb157, _, none⟩) NB156_157.out _).trans (((cell_far (p := ⟨gb157, _, none⟩) NB156_157.out _).trans (hHeld.2.2.1)))), ((cell_far (p := ⟨gb157, _, none⟩) NB156_157.out _).trans (((cell_far (p := ⟨gb157, _, none⟩) NB156_157.out _).trans (hHeld.2.2.2))))⟩ (fun hHeld => ?_)
  clear hK K
  refine pure_ (i := 13) (N := some 5) (v := ?_) (a' := ?_) #[true, true, true, true, true, true, true, true, true, true, true, true, true, true] rfl rfl (any_of HT_.out kk) (fun _ _ _ h => h) (Or.inl ⟨by rfl, ?_⟩) ?_ ?_
  rotate_left
  ·intro w'
   go_simp
   with_reducible rfl
  rotate_left
  ·simp only [Act.put, List.setIfInBounds_toArray, List.set_cons_zero, List.set_cons_succ, i64_w, i32_w]
   rfl
  refine done_ (done_of HT_.out kk) ?_
  try go_wp2
  refine bodyPost_ret (results_ct rfl _ _ gb157 24 #[.int .i64 t164, .int .i64 t165] (0, 0) _ rfl (by (with_reducible repeat (first | refine blk_drewN ?_ _ | refine blk_drew ?_ | refine blk_alloc ?_ _)); refine blk_put (cs := #[.int .i64 t164, .int .i64 0]) ?_ 1 _ rfl; (with_reducible repeat (first | refine blk_drewN ?_ _ | refine blk_drew ?_ | refine blk_alloc ?_ _)); refine blk_put (cs := #[.int .i64 0, .int .i64 0]) ?_ 0 _ rfl; (with_reducible repeat (first | refine blk_drewN ?_ _ | refine blk_drew ?_ | refine blk_alloc ?_ _)); exact BK157.out) Tryd.underlying24 rfl kk) rfl ?_
  exact ⟨pe, pw⟩
 have H1 : (some (0, 0, some q159)) = some (r1, r2, r3) := by rw [if_neg (show ¬ (some q159).isNone = true by simp)] at H; exact H
 clear H
 have H := H1
 clear H1
 try simp only [errW_none, errW_some]
 simp only [Option.some.injEq, Prod.mk.injEq] at H
 obtain ⟨rfl, rfl, rfl⟩ := H
 go_enter Tryd.func43, Tryd.ntmps43
 go_wp2_with (first | ((with_reducible refine gate_dst (N := 2) rfl ?_); refine box_event ?hg (N := 2) ?hd (cs := #[.int .i64 a0_0, .int .i64 a0_1]) (t := 24) ?hr ?_; (case hd => rfl); (case hg => rfl); (case hr => first | (go_simp; done) | (go_simp; rfl)); intro gb155 hg w23 hbox hb; have n0_ := am (below_step pw hb); have n1_ := am (hbox); have n2_ := am ((by rw [hg]; exact (below_size pw) : w.heap.size ≤ gb155)); have n3_ := am ((by rw [hg]; exact (below_size pw) : w.heap.size ≤ gb155)); clear HB; have HB := n0_; have BK155 := n1_; have GW155 := n2_; have GE155 := n3_; clear n0_ n1_ n2_ n3_; clear hb hbox hg) | ((with_reducible refine gate_dst (N := 3) rfl ?_); refine box_event ?hg (N := 3) ?hd (cs := #[.int .i64 a1_0, .int .i64 a1_1]) (t := 24) ?hr ?_; (case hd => rfl); (case hg => rfl); (case hr => first | (go_simp; done) | (go_simp; rfl)); intro gb156 hg w24 hbox hb; have n0_ := bb BK155 hb; have n1_ := am (below_step pw hb); have n2_ := am (hbox); have n3_ := am ((by rw [hg]; exact (below_size pw) : w.heap.size ≤ gb156)); have n4_ := am ((by rw [hg]; exact (below_size pw) : w.heap.size ≤ gb156)); have n5_ := am ((by rw [hg]; exact Nat.ne_of_lt (blk_lt pk) : gb155 ≠ gb156)); have n6_ := am ((by rw [hg]; exact Nat.ne_of_gt (blk_lt pk) : gb156 ≠ gb155)); clear BK155; clear HB; have BK155 := n0_; have HB := n1_; have BK156 := n2_; have GW156 := n3_; have GE156 := n4_; have NB155_156 := n5_; have NB156_155 := n6_; clear n0_ n1_ n2_ n3_ n4_ n5_ n6_; clear hb hbox hg) | ((with_reducible refine gate_dst (N := 4) rfl ?_); refine box_event ?hg (N := 4) ?hd (cs := #[.int .i64 0, .int .i64 0]) (t := 24) ?hr ?_; (case hd => rfl); (case hg => rfl); (case hr => first | (go_simp; done) | (go_simp; rfl)); intro gb157 hg w25 hbox hb; have n0_ := bb BK155 hb; have n1_ := bb BK156 hb; have n2_ := am (below_step pw hb); have n3_ := am (hbox); have n4_ := am ((by rw [hg]; exact (below_size pw) : w.heap.size ≤ gb157)); have n5_ := am ((by rw [hg]; exact (below_size pw) : w.heap.size ≤ gb157)); have n6_ := am ((by rw [hg]; exact Nat.ne_of_lt (blk_lt pk) : gb155 ≠ gb157)); have n7_ := am ((by rw [hg]; exact Nat.ne_of_gt (blk_lt pk) : gb157 ≠ gb155)); have n8_ := am ((by rw [hg]; exact Nat.ne_of_lt (blk_lt pk) : gb156 ≠ gb157)); have n9_ := am ((by rw [hg]; exact Nat.ne_of_gt (blk_lt pk) : gb157 ≠ gb156)); clear BK155; clear BK156; clear HB; have BK155 := n0_; have BK156 := n1_; have HB := n2_; have BK157 := n3_; have GW157 := n4_; have GE157 := n5_; have NB155_157 := n6_; have NB157_155 := n7_; have NB156_157 := n8_; have NB157_156 := n9_; clear n0_ n1_ n2_ n3_ n4_ n5_ n6_ n7_ n8_ n9_; clear hb hbox hg; have hnb26 := NB155_156.out; have hnc26 := NB156_155.out; have hnb27 := NB155_157.out; have hnc27 := NB157_155.out; have hcz28_0 : w25.cell? ⟨gb155, 0, none⟩ = some (.int .i64 a0_0) := bc BK155 0; have hcz28_1 : w25.cell? ⟨gb155, 1, none⟩ = some (.int .i64 a0_1) := bc BK155 1; have hfz28_0 := blk_frozen BK155.out 0; have hfz28_1 := blk_frozen BK155.out 1; have hnb29 := NB156_157.out; have hnc29 := NB157_156.out; have hcz30_0 : w25.cell? ⟨gb156, 0, none⟩ = some (.int .i64 a1_0) := bc BK156 0; have hcz30_1 : w25.cell? ⟨gb156, 1, none⟩ = some (.int .i64 a1_1) := bc BK156 1; have hfz30_0 := blk_frozen BK156.out 0; have hfz30_1 := blk_frozen BK156.out 1) | ((with_reducible refine gate_callee (f := 64) rfl ?_); refine goesL_ (some 9) rfl rfl Tryd.func64 kk rfl #[.agg #[.int .i64 a0_0, .int .i64 a0_1], .agg #[.int .i64 a1_0, .int .i64 a1_1]] rfl (by (try simp only [List.map_toArray, List.map_cons, List.map_nil]); first | done | rfl | (simp only [List.length_drop, List.length_take]; rfl)) ?_; (with_reducible refine (congr_two.calls k a0_0 a0_1 a1_0 a1_1 (some q159) _ A3.out (am (ErrAt.below hE2.out pw)).out (am (ErrAt.below hE3.out pw)).out).mono ?_); rintro e w31 ⟨rfl, hb⟩; refine ⟨_, rfl, ?_⟩; have n0_ := bb BK155 hb; have n1_ := bb BK156 hb; have n2_ := bb BK157 hb; have n3_ := am (below_step pw hb); clear BK155; clear BK156; clear BK157; clear HB; have BK155 := n0_; have BK156 := n1_; have BK157 := n2_; have HB := n3_; clear n0_ n1_ n2_ n3_; (try clear hb); (try clear hb2); (try clear hk); (try clear hi); (try simp only [errW_none, errW_some]); have hcz32_0 : w31.cell? ⟨gb157, 0, none⟩ = some (.int .i64 0) := bc BK157 0; have hcz32_1 : w31.cell? ⟨gb157, 1, none⟩ = some (.int .i64 0) := bc BK157 1; have hfz32_0 := blk_frozen BK157.out 0; have hfz32_1 := blk_frozen BK157.out 1))
 refine bodyPost_ret (results_ct rfl _ _ gb157 24 #[.int .i64 0, .int .i64 0] (0, 0) _ rfl (by (with_reducible repeat (first | refine blk_drewN ?_ _ | refine blk_drew ?_ | refine blk_alloc ?_ _)); refine blk_put (cs := #[.int .i64 0, .int .i64 0]) ?_ 1 _ rfl; (with_reducible repeat (first | refine blk_drewN ?_ _ | refine blk_drew ?_ | refine blk_alloc ?_ _)); refine blk_put (cs := #[.int .i64 0, .int .i64 0]) ?_ 0 _ rfl; (with_reducible repeat (first | refine blk_drewN ?_ _ | refine blk_drew ?_ | refine blk_alloc ?_ _)); exact BK157.out) Tryd.underlying24 rfl kk) rfl ?_
 exact ⟨pe, pw⟩

/-! ### congr_Add, where there is no error -/
def congr_Add_ok.f (k : Nat) (a0_0 : Int) (a0_1 : Int) (a1_0 : Int) (a1_1 : Int) : Option (Int × Int) := (congr_Add.f k a0_0 a0_1 a1_0 a1_1).bind fun t_ => match t_ with | (q0_, q1_, q2_) => if q2_.isNone = true then some (q0_, q1_) else none
theorem congr_Add_ok.calls [EA] (k : Nat) (a0_0 : Int) (a0_1 : Int) (a1_0 : Int) (a1_1 : Int) (r1 : Int) (r2 : Int) (w : World) (h : congr_Add_ok.f k a0_0 a0_1 a1_0 a1_1 = some (r1, r2)) (h2_ : ErrAt 2 1 w) (h3_ : ErrAt 3 0 w) :
  Calls Tryd.prog 43 #[.agg #[.int .i64 a0_0, .int .i64 a0_1], .agg #[.int .i64 a1_0, .int .i64 a1_1]] w fun e w' => e = .returned (.tuple #[.agg #[.int .i64 r1, .int .i64 r2], .nilIface]) ∧ Below w.heap.size w w' := by
 obtain ⟨t_, h1_, h2_⟩ := Option.bind_eq_some_iff.mp h
 obtain ⟨q0_, q1_, q2_⟩ := t_
 cases q2_ with
 | some c_ => exact absurd h2_ (by simp)
 | none =>
  simp only [Option.isNone_none, if_true, Option.some.injEq, Prod.mk.injEq] at h2_
  obtain ⟨rfl, rfl⟩ := h2_
  exact congr_Add.calls k a0_0 a0_1 a1_0 a1_1 _ _ none w h1_ h2_ h3_
theorem congr_Add_ok.mono : ∀ a0_ a1_ a2_ a3_ k, LeO (congr_Add_ok.f k a0_ a1_ a2_ a3_) (congr_Add_ok.f (k + 1) a0_ a1_ a2_ a3_) := by
 intro a0_ a1_ a2_ a3_ k
 unfold congr_Add_ok.f
 exact LeO.bind (congr_Add.mono a0_ a1_ a2_ a3_ k) (fun _ => LeO.refl _)

/-! ### congr_times: function 92 -/
def congr_times.f (a0 : Int) (a1 : Int) : Option (Int × Bool) := if a0 = 0 then (some (wrap64 (a0 * a1), true)) else ((congr_size.f a1).bind fun t166 => ((congr_size.f a0).bind fun t167 => (if t167 = 0 then (none) else (if t166 > (wrap64 (Int.tdiv (4611686018427387904 : Int) t167)) then (some (0, false)) else (some (wrap64 (a0 * a1), true))))))
set_option maxHeartbeats 8000000 in
set_option maxRecDepth 100000 in
theorem congr_times.calls [EA] (a0 : Int) (a1 : Int) (r1 : Int) (r2 : Bool) (w : World) (h : congr_times.f a0 a1 = some (r1, r2)) :
  Calls Tryd.prog 92 #[.int .i64 a0, .int .i64 a1] w fun e w' => e = .returned (.tuple #[.int .i64 r1, .bool r2]) ∧ Below w.heap.size w w' := by
 have HB := am (Below.refl w.heap.size w)
 have H : (if a0 = 0 then (some (wrap64 (a0 * a1), true)) else ((congr_size.f a1).bind fun t166 => ((congr_size.f a0).bind fun t167 => (if t167 = 0 then (none) else (if t166 > (wrap64 (Int.tdiv (4611686018427387904 : Int) t167)) then (some (0, false)) else (some (wrap64 (a0 * a1), true))))))) = some (r1, r2) := h
 clear h
 by_cases c3 : a0 = 0
 ·rw [if_pos c3] at H
  have c3b0 : (a0 == 0) = true := beq_iff_eq.mpr c3
  have c3b1 : (a0 != 0) = false := bne_eq_false_iff_eq.mpr c3
  clear c3
  simp only [Option.some.injEq, Prod.mk.injEq] at H
  obtain ⟨rfl, rfl⟩ := H
  go_enter Tryd.func92, Tryd.ntmps92
  go_wp2
  go_ret2
  exact ⟨pe, pw⟩
 rw [if_neg c3] at H
 have c3b0 : (a0 == 0) = false := beq_eq_false_iff_ne.mpr c3
 have c3b1 : (a0 != 0) = true := bne_iff_ne.mpr c3
 replace H := Option.bind_eq_some_iff.mp H
 obtain ⟨t166, A40, H⟩ := H
 replace H : ((congr_size.f a0).bind fun t167 => (if t167 = 0 then (none) else (if t166 > (wrap64 (Int.tdiv (4611686018427387904 : Int) t167)) then (some (0, false)) else (some (wrap64 (a0 * a1), true))))) = some (r1, r2) := H
 have A4 := am A40
 clear A40
 replace H := Option.bind_eq_some_iff.mp H
 obtain ⟨t167, A50, H⟩ := H
 replace H : (if t167 = 0 then (none) else (if t166 > (wrap64 (Int.tdiv (4611686018427387904 : Int) t167)) then (some (0, false)) else (some (wrap64 (a0 * a1), true)))) = some (r1, r2) := H
 have A5 := am A50
 clear A50
 by_cases c6 : t167 = 0
 ·rw [if_pos c6] at H
  exact absurd H (by simp)
 rw [if_neg c6] at H
 have c6b0 : (t167 == 0) = false := beq_eq_false_iff_ne.mpr c6
 have c6b1 : (t167 != 0) = true := bne_iff_ne.mpr c6
 by_cases c7 : t166 > (wrap64 (Int.tdiv (4611686018427387904 : Int) t167))
 ·rw [if_pos c7] at H
  have c7b0 : decide ((wrap64 (Int.tdiv (4611686018427387904 : Int) t167)) < t166) = true := decide_eq_true c7
  clear c7
  simp only [Option.some.injEq, Prod.mk.injEq] at H
  obtain ⟨rfl, rfl⟩ := H
  go_enter Tryd.func92, Tryd.ntmps92
  go_wp2_with (first | (go_at_call 109; (with_reducible refine (congr_size.calls a1 t166 _ A4.out).mono ?_); rintro e w8 ⟨rfl, hb⟩; have n0_ := am (below_step pw hb); clear HB; have HB := n0_; clear n0_; (try clear hb); (try clear hb2); (try clear hk); (try clear hi)) | (go_at_call 109; (with_reducible refine (congr_size.calls a0 t167 _ A5.out).mono ?_); rintro e w9 ⟨rfl, hb⟩; have n0_ := am (below_step pw hb); clear HB; have HB := n0_; clear n0_; (try clear hb); (try clear hb2); (try clear hk); (try clear hi)))
  go_ret2
  exact ⟨pe, pw⟩
 rw [if_neg c7] at H
 have c7b0 : decide ((wrap64 (Int.tdiv (4611686018427387904 : Int) t167)) < t166) = false := decide_eq_false c7
 clear c7
 simp only [Option.some.injEq, Prod.mk.injEq] at H
 obtain ⟨rfl, rfl⟩ := H
 go_enter Tryd.func92, Tryd.ntmps92
 go_wp2_with (first | (go_at_call 109; (with_reducible refine (congr_size.calls a1 t166 _ A4.out).mono ?_); rintro e w10 ⟨rfl, hb⟩; have n0_ := am (below_step pw hb); clear HB; have HB := n0_; clear n0_; (try clear hb); (try clear hb2); (try clear hk); (try clear hi)) | (go_at_call 109; (with_reducible refine (congr_size.calls a0 t167 _ A5.out).mono ?_); rintro e w11 ⟨rfl, hb⟩; have n0_ := am (below_step pw hb); clear HB; have HB := n0_; clear n0_; (try clear hb); (try clear hb2); (try clear hk); (try clear hi)))
 go_ret2
 exact ⟨pe, pw⟩

end Go.Proofs.YtjpboodkmhikpaaDoor.C
