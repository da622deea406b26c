import Derived.Test.YtjpboodkmhikpaaDoorOrSp
import Derived.Test.YtjpboodkmhikpaaDoorOrEb
import Derived.Test.YtjpboodkmhikpaaDoorOrFld
import Derived.Test.YtjpboodkmhikpaaDoorOrZ0
import Derived.Test.YtjpboodkmhikpaaDoorOrZ3
-- Written by wip/xprint.py (the session's program over the kit's print).
namespace Go.Proofs.YtjpboodkmhikpaaDoor.Z
open Go.RowKit Go.Proofs.YtjpboodkmhikpaaDoorW.PrintWords Go.Proofs.YtjpboodkmhikpaaDoorW.PrintLast Go.Proofs.YtjpboodkmhikpaaDoorW.PrintMore Go.Proofs.Rcg
attribute [local go_sem] Go.Proofs.Rcg.fld_zone1 Go.Proofs.Rcg.fld_rzone1 max2_int min2_int max_two min_two max_three min_three max_four min_four   -- for this text's walks alone
set_option linter.unusedVariables false
set_option linter.unusedSimpArgs false

/-! ### L2_isZone: function 31 -/
def L2_isZone.f (k : Nat) (a0_0 : Int) (l0_1 : List (S42)) (a1_0 : Int) (l1_1 : List (S112)) : Option (Bool) := if a0_0 = a1_0 then ((L2_zoneBack.f k a0_0 l0_1).bind fun bt123 => ((R2_SameCells.f k bt123.2 l1_1).bind fun t127 => (some t127))) else (some false)
theorem L2_isZone.mono : ∀ a0 a1 a2 a3 k, LeO (L2_isZone.f k a0 a1 a2 a3) (L2_isZone.f (k + 1) a0 a1 a2 a3) := by
 intro a0 a1 a2 a3 k
 unfold L2_isZone.f
 repeat' first
   | (with_reducible exact L2_zoneBack.mono _ _ _)
   | (with_reducible exact R2_SameCells.mono _ _ _)
   | (with_reducible exact LeO.refl _)
   | (with_reducible exact LeO.none _)
   | (with_reducible refine LeO.ite ?_ ?_)
   | (with_reducible refine LeO.bind ?_ (fun _ => ?_))
   | exact L2_zoneBack.mono _ _ _
   | exact R2_SameCells.mono _ _ _
   | exact LeO.none _
   | refine LeO.ite ?_ ?_
   | refine LeO.bind ?_ (fun _ => ?_)
def L2_isZone.T1 : Bool × List (List Nat × List Nat) := (true, [([], []), ([0], [0]), ([], []), ([2], [2]), ([1, 3], [1, 3]), ([4], [4]), ([5], [5]), ([6, 5, 5], [5, 6]), ([7, 5], [5, 7]), ([5], [5]), ([9, 5], [5, 9]), ([8, 10, 7, 5], [5, 8, 10]), ([5, 11], [5, 11]), ([12, 11, 0, 1, 2, 3, 4, 5, 6, 7, 8, 9, 10, 11, 12], [12])])
def L2_isZone.B1 : List Nat := [0, 1, 0, 4, 15, 31, 63, 127, 255, 63, 575, 2047, 4095, 8191]
theorem L2_isZone.tab1 : rtab .any (opsOf Tryd.f31 1) = L2_isZone.T1 := by kernel_rfl
theorem L2_isZone.bits1 : waitsOk L2_isZone.T1.2 L2_isZone.B1 = true := by kernel_rfl
set_option maxHeartbeats 8000000 in
set_option maxRecDepth 100000 in
theorem L2_isZone.calls [EA] (k : Nat) (a0_0 : Int) (A0_1 : Option Addr) (c0_1 : Nat) (l0_1 : List (S42)) (a1_0 : Int) (A1_1 : Option Addr) (c1_1 : Nat) (l1_1 : List (S112)) (r : Bool) (w : World) (hr0_1 : Kd.C k42 w A0_1 l0_1.length l0_1) (hc0_1 : l0_1.length ≤ c0_1) (hr1_1 : Kd.C k112 w A1_1 l1_1.length l1_1) (hc1_1 : l1_1.length ≤ c1_1) (h : L2_isZone.f k a0_0 l0_1 a1_0 l1_1 = some r) :
  Calls Tryd.prog 31 #[.agg #[.int .i64 a0_0, .slice A0_1 l0_1.length c0_1], .agg #[.int .i64 a1_0, .slice A1_1 l1_1.length c1_1]] w fun e w' => e = .returned (.bool r) ∧ Below w.heap.size w w' := by
 have hu37 := Tryd.underlying37
 have hu33 := Tryd.underlying33
 have HR0_1 := am hr0_1
 have HC0_1 := am hc0_1
 clear hr0_1 hc0_1
 have HR1_1 := am hr1_1
 have HC1_1 := am hc1_1
 clear hr1_1 hc1_1
 have HB := am (Below.refl w.heap.size w)
 have H : (if a0_0 = a1_0 then ((L2_zoneBack.f k a0_0 l0_1).bind fun bt123 => ((R2_SameCells.f k bt123.2 l1_1).bind fun t127 => (some t127))) else (some false)) = some r := h
 clear h
 by_cases c3 : a0_0 = a1_0
 ·rw [if_pos c3] at H
  have c3b0 : (a0_0 == a1_0) = true := beq_iff_eq.mpr c3
  have c3b1 : (a0_0 != a1_0) = false := bne_eq_false_iff_eq.mpr c3
  clear c3
  replace H := Option.bind_eq_some_iff.mp H
  obtain ⟨⟨t123, t124⟩, A40, H⟩ := H
  replace H : ((R2_SameCells.f k t124 l1_1).bind fun t127 => (some t127)) = some r := H
  have A4 := am A40
  clear A40
  replace H := Option.bind_eq_some_iff.mp H
  obtain ⟨t127, A50, H⟩ := H
  replace H : (some t127) = some r := H
  have A5 := am A50
  clear A50
  obtain rfl := Option.some.inj H
  go_enter Tryd.func31, Tryd.ntmps31
  try go_wp2_with (first | ((with_reducible refine gate_dst (N := 2) rfl ?_); refine box_event ?hg (N := 2) ?hd (cs := #[.int .i64 a0_0, .slice A0_1 l0_1.length c0_1]) (t := 37) ?hr ?_; (case hd => rfl); (case hg => rfl); (case hr => first | (go_simp; done) | (go_simp; rfl)); intro gb121 hg w6 hbox hb; have n0_ := am (below_step pw hb); have n1_ := am (hbox); have n2_ := am (sz (w := w) hg pw); have n3_ := am (sz (w := w) hg pw); clear HB; revert n0_ n1_ n2_ n3_; intro HB BK121 GW121 GE121; clear hb hbox hg) | ((with_reducible refine gate_dst (N := 3) rfl ?_); refine box_event ?hg (N := 3) ?hd (cs := #[.int .i64 a1_0, .slice A1_1 l1_1.length c1_1]) (t := 33) ?hr ?_; (case hd => rfl); (case hg => rfl); (case hr => first | (go_simp; done) | (go_simp; rfl)); intro gb122 hg w7 hbox hb; have n0_ := bb BK121 hb; have n1_ := am (below_step pw hb); have n2_ := am (hbox); have n3_ := am (sz (w := w) hg pw); have n4_ := am (sz (w := w) hg pw); have n5_ := am (nl BK121 hg); have n6_ := am ((nl BK121 hg).symm); clear BK121 HB; revert n0_ n1_ n2_ n3_ n4_ n5_ n6_; intro BK121 HB BK122 GW122 GE122 NB121_122 NB122_121; clear hb hbox hg))
  have n0_ := am (blk_drew BK121.out)
  have n1_ := am (blk_drew BK122.out)
  have n2_ := am (below_drew1 HB.out)
  clear BK121 BK122 HB
  revert n0_ n1_ n2_
  intro BK121 BK122 HB
  refine start_ (n := 14) (S := fun w' => w'.cell? ⟨gb121, 0, none⟩ = some (.int .i64 a0_0) ∧ w'.cell? ⟨gb121, 1, none⟩ = some (.slice A0_1 l0_1.length c0_1) ∧ w'.cell? ⟨gb122, 0, none⟩ = some (.int .i64 a1_0) ∧ w'.cell? ⟨gb122, 1, none⟩ = some (.slice A1_1 l1_1.length c1_1)) (ds := []) (bm 0 14) kk rfl rfl ⟨bc BK121 0, bc BK121 1, bc BK122 0, bc BK122 1⟩ (fun hHeld => ?_); refine with_tabW L2_isZone.tab1 L2_isZone.bits1 (fun HT_ HW_ => ?_)
  generalize w7.drew = w8 at BK121 BK122 HB hHeld ⊢
  refine pure_ (i := 0) (N := some 5) (v := ?_) (a' := ?_) (bm 1 14) rfl rfl (any_of HT_.out kk) (fun _ _ _ h => h) (Or.inl ⟨by rfl, ?_⟩) ?_ ?_
  rotate_left; ·intro w'; go_simp; with_reducible rfl
  rotate_left; ·simp only [sp]; rfl
  refine pure_ (i := 2) (N := some 7) (v := ?_) (a' := ?_) #[true, false, true, false, false, false, false, false, false, false, false, false, false, false] rfl rfl (any_of HT_.out kk) (fun _ _ _ h => h) (Or.inl ⟨by rfl, ?_⟩) ?_ ?_
  rotate_left; ·intro w'; go_simp; with_reducible rfl
  rotate_left; ·simp only [sp]; rfl
  refine take_ (i := 1) (N := some 6) (v := ?_) (a' := ?_) (bm 3 14) rfl rfl (take_ofW HT_.out HW_.out kk) (fun _ _ _ h => h) (Or.inl ⟨by rfl, ?_⟩) hHeld ?_ ?_
  rotate_left; ·rintro w' ⟨s0, s1, s2, s3⟩; go_simp; with_reducible rfl
  rotate_left; ·simp only [sp]; rfl
  refine take_ (i := 3) (N := some 8) (v := ?_) (a' := ?_) (bm 4 14) rfl rfl (take_ofW HT_.out HW_.out kk) (fun _ _ _ h => h) (Or.inl ⟨by rfl, ?_⟩) hHeld ?_ ?_
  rotate_left; ·rintro w' ⟨s0, s1, s2, s3⟩; go_simp; with_reducible rfl
  rotate_left; ·simp only [sp]; rfl
  refine pure_ (i := 4) (N := some 9) (v := ?_) (a' := ?_) (bm 5 14) rfl rfl (any_of HT_.out kk) (fun _ _ _ h => h) (Or.inl ⟨by rfl, ?_⟩) ?_ ?_
  rotate_left; ·intro w'; go_simp; with_reducible rfl
  rotate_left; ·simp only [sp]; rfl
  refine pure_ (i := 5) (N := some 10) (v := ?_) (a' := ?_) (bm 6 14) rfl rfl (any_of HT_.out kk) (fun _ _ _ h => h) (Or.inl ⟨by rfl, ?_⟩) ?_ ?_
  rotate_left; ·intro w'; go_simp; with_reducible rfl
  rotate_left; ·simp only [sp]; rfl
  refine pure_ (i := 9) (N := some 14) (v := ?_) (a' := ?_) #[true, true, true, true, true, true, false, false, false, true, false, false, false, false] rfl rfl (any_of HT_.out kk) (fun _ _ _ h => h) (Or.inl ⟨by rfl, ?_⟩) ?_ ?_
  rotate_left; ·intro w'; go_simp; with_reducible rfl
  rotate_left; ·simp only [sp]; rfl
  refine take_ (i := 6) (N := some 11) (v := ?_) (a' := ?_) #[true, true, true, true, true, true, true, false, false, true, false, false, false, false] rfl rfl (take_ofW HT_.out HW_.out kk) (fun _ _ _ h => h) (Or.inl ⟨by rfl, ?_⟩) hHeld ?_ ?_
  rotate_left; ·rintro w' ⟨s0, s1, s2, s3⟩; go_simp; with_reducible rfl
  rotate_left; ·simp only [sp]; rfl
  refine take_ (i := 10) (N := some 15) (v := ?_) (a' := ?_) #[true, true, true, true, true, true, true, false, false, true, true, false, false, false] rfl rfl (take_ofW HT_.out HW_.out kk) (fun _ _ _ h => h) (Or.inl ⟨by rfl, ?_⟩) hHeld ?_ ?_
  rotate_left; ·rintro w' ⟨s0, s1, s2, s3⟩; go_simp; with_reducible rfl
  rotate_left; ·simp only [sp]; rfl
  refine one_ (i := 7) (N := some 12) #[true, true, true, true, true, true, true, true, false, true, true, false, false, false] rfl rfl (one_of HT_.out kk) (by decide) (fun K hK => ?_)
  refine goes_ Tryd.func32 kk rfl #[.agg #[.int .i64 a0_0, .slice A0_1 l0_1.length c0_1]] (by rfl) rfl rfl (by (try simp only [List.map_toArray, List.map_cons, List.map_nil]); first | done | rfl | (simp only [List.length_drop, List.length_take]; rfl)) ?_
  with_reducible refine (L2_zoneBack.calls k a0_0 _ _ l0_1 t123 t124 _ ?side1 ?side2 A4.out).mono ?_
  (case side1 => repeat (first | exact (Kd.C_below HR0_1.out HB.out) | (with_reducible refine Kd.C_alloc ?_ _) | (with_reducible refine Kd.C_drewN ?_ _) | (with_reducible refine Kd.C_drew ?_)))
  (case side2 => exact HC0_1.out)
  rintro e w9 ⟨v125, rfl, ho0, hb⟩
  refine ⟨_, rfl, ?_⟩
  have n0_ := am (Kd.R_lower ho0 (below_size pw))
  have n1_ := bb BK121 hb
  have n2_ := bb BK122 hb
  have n3_ := am (below_step pw hb)
  clear BK121 BK122 HB
  revert n0_ n1_ n2_ n3_
  intro HO126 BK121 BK122 HB
  (try clear hb)
  (try clear hb2)
  (try clear hk)
  (try clear hi)
  (try clear ho0)
  obtain ⟨Ao10, co10, eo10⟩ := Kd.R_slice HO126.out
  (first | subst eo10 | (injection eo10 with f1_ f2_ f3_; have f4_ := f1_.symm; have f5_ := f3_.symm; clear f1_ f2_ f3_; subst f4_; subst f5_))
  refine hK.out _ _ ⟨bc BK121 0, bc BK121 1, bc BK122 0, bc BK122 1⟩ (fun hHeld => ?_)
  clear hK K
  refine norm_ (a' := ?_) ?_ ?_
  rotate_left
  ·show Act.put _ (some 12) _ = _
   simp only [sp]; rfl
  refine pure_ (i := 8) (N := some 13) (v := ?_) (a' := ?_) (bm 11 14) rfl rfl (any_of HT_.out kk) (fun _ _ _ h => h) (Or.inl ⟨by rfl, ?_⟩) ?_ ?_
  rotate_left; ·intro w'; go_simp; with_reducible rfl
  rotate_left; ·simp only [sp]; rfl
  refine one_ (i := 11) (N := some 16) (bm 12 14) rfl rfl (one_of HT_.out kk) (by decide) (fun K hK => ?_)
  refine goes_ Tryd.func83 kk rfl #[.slice Ao10 t124.length co10, .slice A1_1 l1_1.length c1_1] (by rfl) rfl rfl (by (try simp only [List.map_toArray, List.map_cons, List.map_nil]); first | done | rfl | (simp only [List.length_drop, List.length_take]; rfl)) ?_
  with_reducible refine (R2_SameCells.calls k _ _ t124 _ _ l1_1 t127 _ ?side1 ?side2 ?side3 ?side4 A5.out).mono ?_
  (case side1 => repeat (first | exact (Kd.R_reads' HO126.out).2.2 | (with_reducible refine Kd.C_alloc ?_ _) | (with_reducible refine Kd.C_drewN ?_ _) | (with_reducible refine Kd.C_drew ?_)))
  (case side2 => exact (Kd.R_reads' HO126.out).2.1)
  (case side3 => repeat (first | exact (Kd.C_below HR1_1.out HB.out) | (with_reducible refine Kd.C_alloc ?_ _) | (with_reducible refine Kd.C_drewN ?_ _) | (with_reducible refine Kd.C_drew ?_)))
  (case side4 => exact HC1_1.out)
  rintro e w' ⟨rfl, ⟨nd, rfl⟩⟩
  refine ⟨_, rfl, ?_⟩
  refine hK.out _ _ ⟨bc BK121 0, bc BK121 1, bc BK122 0, bc BK122 1⟩ (fun hHeld => ?_)
  clear hK K
  refine norm_ (a' := ?_) ?_ ?_
  rotate_left
  ·show Act.put _ (some 16) _ = _
   simp only [sp]; rfl
  refine pure_ (i := 12) (N := some 17) (v := ?_) (a' := ?_) (bm 13 14) rfl rfl (any_of HT_.out kk) (fun _ _ _ h => h) (Or.inl ⟨by rfl, ?_⟩) ?_ ?_
  rotate_left; ·intro w'; go_simp; with_reducible rfl
  rotate_left; ·simp only [sp]; rfl
  refine pure_ (i := 13) (N := some 4) (v := ?_) (a' := ?_) (bm 14 14) rfl rfl (any_of HT_.out kk) (fun _ _ _ h => h) (Or.inl ⟨by rfl, ?_⟩) ?_ ?_
  rotate_left; ·intro w'; go_simp; with_reducible rfl
  rotate_left; ·simp only [sp]; rfl
  refine done_ (done_of HT_.out kk) ?_
  (try simp only [errW_none, errW_some])
  try go_wp2
  go_ret
  exact ⟨pe, pw⟩
 rw [if_neg c3] at H
 have c3b0 : (a0_0 == a1_0) = false := beq_eq_false_iff_ne.mpr c3
 have c3b1 : (a0_0 != a1_0) = true := bne_iff_ne.mpr c3
 obtain rfl := Option.some.inj H
 go_enter Tryd.func31, Tryd.ntmps31
 try go_wp2_with (first | ((with_reducible refine gate_dst (N := 2) rfl ?_); refine box_event ?hg (N := 2) ?hd (cs := #[.int .i64 a0_0, .slice A0_1 l0_1.length c0_1]) (t := 37) ?hr ?_; (case hd => rfl); (case hg => rfl); (case hr => first | (go_simp; done) | (go_simp; rfl)); intro gb121 hg w11 hbox hb; have n0_ := am (below_step pw hb); have n1_ := am (hbox); have n2_ := am (sz (w := w) hg pw); have n3_ := am (sz (w := w) hg pw); clear HB; revert n0_ n1_ n2_ n3_; intro HB BK121 GW121 GE121; clear hb hbox hg) | ((with_reducible refine gate_dst (N := 3) rfl ?_); refine box_event ?hg (N := 3) ?hd (cs := #[.int .i64 a1_0, .slice A1_1 l1_1.length c1_1]) (t := 33) ?hr ?_; (case hd => rfl); (case hg => rfl); (case hr => first | (go_simp; done) | (go_simp; rfl)); intro gb122 hg w12 hbox hb; have n0_ := bb BK121 hb; have n1_ := am (below_step pw hb); have n2_ := am (hbox); have n3_ := am (sz (w := w) hg pw); have n4_ := am (sz (w := w) hg pw); have n5_ := am (nl BK121 hg); have n6_ := am ((nl BK121 hg).symm); clear BK121 HB; revert n0_ n1_ n2_ n3_ n4_ n5_ n6_; intro BK121 HB BK122 GW122 GE122 NB121_122 NB122_121; clear hb hbox hg))
 have n0_ := am (blk_drew BK121.out)
 have n1_ := am (blk_drew BK122.out)
 have n2_ := am (below_drew1 HB.out)
 clear BK121 BK122 HB
 revert n0_ n1_ n2_
 intro BK121 BK122 HB
 refine start_ (n := 14) (S := fun w' => w'.cell? ⟨gb121, 0, none⟩ = some (.int .i64 a0_0) ∧ w'.cell? ⟨gb121, 1, none⟩ = some (.slice A0_1 l0_1.length c0_1) ∧ w'.cell? ⟨gb122, 0, none⟩ = some (.int .i64 a1_0) ∧ w'.cell? ⟨gb122, 1, none⟩ = some (.slice A1_1 l1_1.length c1_1)) (ds := []) (bm 0 14) kk rfl rfl ⟨bc BK121 0, bc BK121 1, bc BK122 0, bc BK122 1⟩ (fun hHeld => ?_); refine with_tabW L2_isZone.tab1 L2_isZone.bits1 (fun HT_ HW_ => ?_)
 generalize w12.drew = w13 at BK121 BK122 HB hHeld ⊢
 refine pure_ (i := 0) (N := some 5) (v := ?_) (a' := ?_) (bm 1 14) rfl rfl (any_of HT_.out kk) (fun _ _ _ h => h) (Or.inl ⟨by rfl, ?_⟩) ?_ ?_
 rotate_left
 ·intro w'
  go_simp
  (with_reducible rfl)
 rotate_left; ·simp only [sp]; rfl
 refine pure_ (i := 2) (N := some 7) (v := ?_) (a' := ?_) #[true, false, true, false, false, false, false, false, false, false, false, false, false, false] rfl rfl (any_of HT_.out kk) (fun _ _ _ h => h) (Or.inl ⟨by rfl, ?_⟩) ?_ ?_
 rotate_left
 ·intro w'
  go_simp
  (with_reducible rfl)
 rotate_left; ·simp only [sp]; rfl
 refine take_ (i := 1) (N := some 6) (v := ?_) (a' := ?_) (bm 3 14) rfl rfl (take_ofW HT_.out HW_.out kk) (fun _ _ _ h => h) (Or.inl ⟨by rfl, ?_⟩) hHeld ?_ ?_
 rotate_left
 ·rintro w' ⟨s0, s1, s2, s3⟩
  go_simp
  (with_reducible rfl)
 rotate_left; ·simp only [sp]; rfl
 refine take_ (i := 3) (N := some 8) (v := ?_) (a' := ?_) (bm 4 14) rfl rfl (take_ofW HT_.out HW_.out kk) (fun _ _ _ h => h) (Or.inl ⟨by rfl, ?_⟩) hHeld ?_ ?_
 rotate_left
 ·rintro w' ⟨s0, s1, s2, s3⟩
  go_simp
  (with_reducible rfl)
 rotate_left; ·simp only [sp]; rfl
 refine pure_ (i := 4) (N := some 9) (v := ?_) (a' := ?_) (bm 5 14) rfl rfl (any_of HT_.out kk) (fun _ _ _ h => h) (Or.inl ⟨by rfl, ?_⟩) ?_ ?_
 rotate_left
 ·intro w'
  go_simp
  (with_reducible rfl)
 rotate_left; ·simp only [sp]; rfl
 refine pure_ (i := 5) (N := some 10) (v := ?_) (a' := ?_) (bm 6 14) rfl rfl (any_of HT_.out kk) (fun _ _ _ h => h) (Or.inl ⟨by rfl, ?_⟩) ?_ ?_
 rotate_left
 ·intro w'
  go_simp
  (with_reducible rfl)
 rotate_left; ·simp only [sp]; rfl
 refine pure_ (i := 6) (N := some 11) (v := undef) (a' := ?_) (bm 7 14) rfl rfl (any_of HT_.out kk) (fun _ _ _ h => h) (Or.inr ⟨by rfl, rfl⟩) ?_ ?_
 rotate_left; ·simp only [sp]; rfl
 refine pure_ (i := 7) (N := some 12) (v := undef) (a' := ?_) (bm 8 14) rfl rfl (any_of HT_.out kk) (fun _ _ _ h => h) (Or.inr ⟨by rfl, rfl⟩) ?_ ?_
 rotate_left; ·simp only [sp]; rfl
 refine pure_ (i := 8) (N := some 13) (v := undef) (a' := ?_) (bm 9 14) rfl rfl (any_of HT_.out kk) (fun _ _ _ h => h) (Or.inr ⟨by rfl, rfl⟩) ?_ ?_
 rotate_left; ·simp only [sp]; rfl
 refine pure_ (i := 9) (N := some 14) (v := undef) (a' := ?_) (bm 10 14) rfl rfl (any_of HT_.out kk) (fun _ _ _ h => h) (Or.inr ⟨by rfl, rfl⟩) ?_ ?_
 rotate_left; ·simp only [sp]; rfl
 refine pure_ (i := 10) (N := some 15) (v := undef) (a' := ?_) (bm 11 14) rfl rfl (any_of HT_.out kk) (fun _ _ _ h => h) (Or.inr ⟨by rfl, rfl⟩) ?_ ?_
 rotate_left; ·simp only [sp]; rfl
 refine pure_ (i := 11) (N := some 16) (v := undef) (a' := ?_) (bm 12 14) rfl rfl (any_of HT_.out kk) (fun _ _ _ h => h) (Or.inr ⟨by rfl, rfl⟩) ?_ ?_
 rotate_left; ·simp only [sp]; rfl
 refine pure_ (i := 12) (N := some 17) (v := ?_) (a' := ?_) (bm 13 14) rfl rfl (any_of HT_.out kk) (fun _ _ _ h => h) (Or.inl ⟨by rfl, ?_⟩) ?_ ?_
 rotate_left
 ·intro w'
  go_simp
  (with_reducible rfl)
 rotate_left; ·simp only [sp]; rfl
 refine pure_ (i := 13) (N := some 4) (v := ?_) (a' := ?_) (bm 14 14) rfl rfl (any_of HT_.out kk) (fun _ _ _ h => h) (Or.inl ⟨by rfl, ?_⟩) ?_ ?_
 rotate_left
 ·intro w'
  go_simp
  (with_reducible rfl)
 rotate_left; ·simp only [sp]; rfl
 refine done_ (done_of HT_.out kk) ?_
 (try simp only [errW_none, errW_some])
 try go_wp2
 go_ret
 exact ⟨pe, pw⟩

/-! ### L2_free: function 20 -/
def L2_free.f (k : Nat)  : Option (Bool) := if 4 ≤ 17592186044416 then ((zone_Close.f 1 (List.replicate 4 z42)).bind fun bt131 => (if bt131.2.2.2.isNone = true then (if bt131.2.2.1 = true then ((L2_isZone.f k bt131.1 bt131.2.1 1 (([(⟨true, 0⟩ : S112), (⟨false, 0⟩ : S112), (⟨false, 0⟩ : S112), (⟨true, 0⟩ : S112)] : List (S112)))).bind fun t142 => (some t142)) else (some false)) else (some false))) else (none)
theorem L2_free.mono : ∀ k, LeO (L2_free.f k ) (L2_free.f (k + 1) ) := by
 intro  k
 unfold L2_free.f
 repeat' first
   | (with_reducible exact L2_isZone.mono _ _ _ _ _)
   | (with_reducible exact LeO.refl _)
   | (with_reducible exact LeO.none _)
   | (with_reducible refine LeO.ite ?_ ?_)
   | (with_reducible refine LeO.bind ?_ (fun _ => ?_))
   | exact L2_isZone.mono _ _ _ _ _
   | exact LeO.none _
   | refine LeO.ite ?_ ?_
   | refine LeO.bind ?_ (fun _ => ?_)
set_option maxHeartbeats 8000000 in
set_option maxRecDepth 100000 in
theorem L2_free.calls [EA] (k : Nat)  (r : Bool) (w : World) (h : L2_free.f k  = some r) (h2_ : ErrAt 2 1 w) (h3_ : ErrAt 3 0 w) :
  Calls Tryd.prog 20 #[] w fun e w' => e = .returned (.bool r) ∧ Below w.heap.size w w' := by
 have hE2 := am h2_
 clear h2_
 have hE3 := am h3_
 clear h3_
 have hu37 := Tryd.underlying37
 have hu112 := Tryd.underlying112
 have hu33 := Tryd.underlying33
 have hu26 := Tryd.underlying26
 have HB := am (Below.refl w.heap.size w)
 have H : (if 4 ≤ 17592186044416 then ((zone_Close.f 1 (List.replicate 4 z42)).bind fun bt131 => (if bt131.2.2.2.isNone = true then (if bt131.2.2.1 = true then ((L2_isZone.f k bt131.1 bt131.2.1 1 (([(⟨true, 0⟩ : S112), (⟨false, 0⟩ : S112), (⟨false, 0⟩ : S112), (⟨true, 0⟩ : S112)] : List (S112)))).bind fun t142 => (some t142)) else (some false)) else (some false))) else (none)) = some r := h
 clear h
 by_cases c1 : 4 ≤ 17592186044416
 ·rw [if_pos c1] at H
  have c1b0 := eq_true c1
  have c1b1 : decide (4 ≤ 17592186044416) = true := decide_eq_true c1
  clear c1
  obtain ⟨y128, hy128⟩ : ∃ y_ : List (S42), y_ = (List.replicate 4 z42) := ⟨_, rfl⟩
  replace H : ((zone_Close.f 1 y128).bind fun bt131 => (if bt131.2.2.2.isNone = true then (if bt131.2.2.1 = true then ((L2_isZone.f k bt131.1 bt131.2.1 1 (([(⟨true, 0⟩ : S112), (⟨false, 0⟩ : S112), (⟨false, 0⟩ : S112), (⟨true, 0⟩ : S112)] : List (S112)))).bind fun t142 => (some t142)) else (some false)) else (some false))) = some r := by first | (rw [hy128]; with_reducible exact H) | (have H2_ := (Option.bind_some _ _).symm.trans H; rw [hy128]; with_reducible exact H2_) | (have H2_ := (Option.bind_some _ _).symm.trans H; with_reducible exact H2_) | with_reducible exact H | (rw [hy128]; exact H) | exact H
  have Ny128 := am hy128
  clear hy128
  replace H := Option.bind_eq_some_iff.mp H
  obtain ⟨⟨t131, t132, t135, t136⟩, A20, H⟩ := H
  replace H : (if t136.isNone = true then (if t135 = true then ((L2_isZone.f k t131 t132 1 (([(⟨true, 0⟩ : S112), (⟨false, 0⟩ : S112), (⟨false, 0⟩ : S112), (⟨true, 0⟩ : S112)] : List (S112)))).bind fun t142 => (some t142)) else (some false)) else (some false)) = some r := H
  have A2 := am A20
  clear A20
  rcases t136 with _ | q138
  ·have H1 : (if t135 = true then ((L2_isZone.f k t131 t132 1 (([(⟨true, 0⟩ : S112), (⟨false, 0⟩ : S112), (⟨false, 0⟩ : S112), (⟨true, 0⟩ : S112)] : List (S112)))).bind fun t142 => (some t142)) else (some false)) = some r := by rw [if_pos (show (none : Option Int).isNone = true by rfl)] at H; exact H
   clear H; have H := H1; clear H1
   try simp only [errW_none, errW_some]
   by_cases c3 : t135 = true
   ·subst c3
    have H1 : ((L2_isZone.f k t131 t132 1 (([(⟨true, 0⟩ : S112), (⟨false, 0⟩ : S112), (⟨false, 0⟩ : S112), (⟨true, 0⟩ : S112)] : List (S112)))).bind fun t142 => (some t142)) = some r := by rw [if_pos rfl] at H; exact H
    clear H; have H := H1; clear H1; obtain ⟨y139, hy139⟩ : ∃ y_ : List (S112), y_ = (([(⟨true, 0⟩ : S112), (⟨false, 0⟩ : S112), (⟨false, 0⟩ : S112), (⟨true, 0⟩ : S112)] : List (S112))) := ⟨_, rfl⟩
    replace H : ((L2_isZone.f k t131 t132 1 y139).bind fun t142 => (some t142)) = some r := by first | (rw [hy139]; with_reducible exact H) | (have H2_ := (Option.bind_some _ _).symm.trans H; rw [hy139]; with_reducible exact H2_) | (have H2_ := (Option.bind_some _ _).symm.trans H; with_reducible exact H2_) | with_reducible exact H | (rw [hy139]; exact H) | exact H
    have Ny139 := am hy139; clear hy139; replace H := Option.bind_eq_some_iff.mp H; obtain ⟨t142, A40, H⟩ := H; replace H : (some t142) = some r := H; have A4 := am A40; clear A40; obtain rfl := Option.some.inj H; go_enter Tryd.func20, Tryd.ntmps20
    go_wp2_with (first | ((with_reducible refine gate_dst (N := 5) rfl ?_); (try (refine gate_guard (by rfl) ?_; dsimp only)); refine Kd.R_make k42 _ 42 rfl (N := 5) rfl 35 _ _ rfl 4 rfl rfl Tryd.underlying35 (.agg #[(.bool false), (.int .i64 0)]) 16 info42 rfl (by decide) (by omega) z42 (ok := fun _ => True) (okp := fun _ => True) (k42_mkM _ _ _ z42 ) (fun _ hk => hk) trivial (by omega) (by omega) (Below.refl _ _) (Nat.le_refl _) ?_; intro v129 w5 ho6 hb hg_ hnew_; clear hg_ hnew_; (first | rw [← Ny128.out] at ho6 | (simp only [Int.reduceToNat] at ho6; rw [← Ny128.out] at ho6)); have n0_ := am (Kd.R_lower ho6 (below_size pw)); have n1_ := am (below_step pw hb); clear HB; revert n0_ n1_; intro HO130 HB; clear hb ho6; obtain ⟨Ao7, co7, eo7⟩ := Kd.R_slice HO130.out; subst eo7) | ((with_reducible refine gate_callee (f := 22) rfl ?_); refine goesL_ (some 7) rfl rfl Tryd.func22 kk rfl #[.agg #[.int .i64 1, .slice Ao7 y128.length co7]] rfl (by (try simp only [List.map_toArray, List.map_cons, List.map_nil]); first | done | rfl | (simp only [List.length_drop, List.length_take]; rfl)) ?_; (with_reducible refine (zone_Close.calls 1 _ _ y128 t131 t132 true none _ ?side1 ?side2 A2.out (am (ErrAt.below hE2.out pw)).out (am (ErrAt.below hE3.out pw)).out).mono ?_); (case side1 => repeat (first | exact (Kd.R_reads' HO130.out).2.2 | (with_reducible refine Kd.C_alloc ?_ _) | (with_reducible refine Kd.C_drewN ?_ _) | (with_reducible refine Kd.C_drew ?_))); (case side2 => exact (Kd.R_reads' HO130.out).2.1); rintro e w8 ⟨v133, rfl, ho0, hb⟩; refine ⟨_, rfl, ?_⟩; have n0_ := am (Kd.R_elder' (rk HO130) (Kd.R_base ho0) hb); have n1_ := am (Kd.R_lower (Kd.R_new' ho0 (Kd.R_lt (rk HO130))) (below_size pw)); have n2_ := am (below_step pw hb); clear HO130 HB; revert n0_ n1_ n2_; intro HO130 HO134 HB; (try clear hb); (try clear hb2); (try clear hk); (try clear hi); (try clear ho0); (try simp only [errW_none, errW_some])) | ((with_reducible refine gate_dst (N := 1) rfl ?_); (try (refine gate_guard (by rfl) ?_; dsimp only)); refine box_event ?hg (N := 1) ?hd (cs := #[.int .i64 0, .slice none 0 0]) (t := 37) ?hr ?_; (case hd => rfl); (case hg => rfl); (case hr => first | (go_simp; done) | (go_simp; rfl)); intro gb137 hg w9 hbox hb; have n0_ := am (Kd.R_below (rk HO130) hb); have n1_ := am (Kd.R_below (rk HO134) hb); have n2_ := am (below_step pw hb); have n3_ := am (hbox); have n4_ := am (sz (w := w) hg pw); have n5_ := am (sz (w := w) hg pw); clear HO130 HO134 HB; revert n0_ n1_ n2_ n3_ n4_ n5_; intro HO130 HO134 HB BK137 GW137 GE137; clear hb hbox hg; have hcz10_0 : w9.cell? ⟨gb137, 0, none⟩ = some (.int .i64 0) := bc BK137 0; have hcz10_1 : w9.cell? ⟨gb137, 1, none⟩ = some (.slice none 0 0) := bc BK137 1; have hfz10_0 := blk_frozen BK137.out 0; have hfz10_1 := blk_frozen BK137.out 1; obtain ⟨Ao11, co11, eo11⟩ := Kd.R_slice HO134.out; subst eo11) | ((with_reducible refine gate_dst (N := 22) rfl ?_); (try (refine gate_guard (by rfl) ?_; dsimp only)); refine Kd.R_lit k112 _ 112 ?hg (N := 22) ?hd (xs := ([(⟨true, 0⟩ : S112), (⟨false, 0⟩ : S112), (⟨false, 0⟩ : S112), (⟨true, 0⟩ : S112)] : List (S112))) (inner := [.bool true, .int .i64 0, .bool false, .int .i64 0, .bool false, .int .i64 0, .bool true, .int .i64 0]) (ok := fun _ => True) (okp := fun _ => True) ?hr ?hp (fun _ hk => hk) trivial (Below.refl _ _) (Nat.le_refl _) (by simp) ?_; (case hd => rfl); (case hg => rfl); (case hr => first | (go_simp; done) | (go_simp; rfl)); (case hp => exact (Reps.c2 (show Kd.M k112 _ _ _ (⟨true, 0⟩ : S112) [.bool true, .int .i64 0] from (k112_mkM _ _ _ (⟨true, 0⟩ : S112) )) (Reps.c2 (show Kd.M k112 _ _ _ (⟨false, 0⟩ : S112) [.bool false, .int .i64 0] from (k112_mkM _ _ _ (⟨false, 0⟩ : S112) )) (Reps.c2 (show Kd.M k112 _ _ _ (⟨false, 0⟩ : S112) [.bool false, .int .i64 0] from (k112_mkM _ _ _ (⟨false, 0⟩ : S112) )) (Reps.c2 (show Kd.M k112 _ _ _ (⟨true, 0⟩ : S112) [.bool true, .int .i64 0] from (k112_mkM _ _ _ (⟨true, 0⟩ : S112) )) (Reps.none _ _)))))); intro v140 w12 ho13 hb hg_ hnew_; clear hg_ hnew_; (first | rw [← Ny139.out] at ho13 | (simp only [Int.reduceToNat] at ho13; rw [← Ny139.out] at ho13)); have n0_ := am (Kd.R_below (by (with_reducible repeat (first | apply Kd.R_alloc | apply Kd.R_drewN | apply Kd.R_drew)); exact (Kd.R_mono (Kd.R_far (p := ⟨gb137, 1, none⟩) (Kd.R_far (p := ⟨gb137, 0, none⟩) (Kd.R_types HO130.out BK137.out (by decide)) (fun _ hk => hk.2) (.int .i64 t131)) (fun _ hk => hk.2) (.slice Ao11 t132.length co11)) (fun _ h_ => h_.1))) hb); have n1_ := am (Kd.R_below (by (with_reducible repeat (first | apply Kd.R_alloc | apply Kd.R_drewN | apply Kd.R_drew)); exact (Kd.R_mono (Kd.R_far (p := ⟨gb137, 1, none⟩) (Kd.R_far (p := ⟨gb137, 0, none⟩) (Kd.R_types HO134.out BK137.out (by decide)) (fun _ hk => hk.2) (.int .i64 t131)) (fun _ hk => hk.2) (.slice Ao11 t132.length co11)) (fun _ h_ => h_.1))) hb); have n2_ := am (Kd.R_lower ho13 (below_size pw)); have n3_ := am (blk_below (g := gb137) (o := .cells #[.int .i64 t131, .slice Ao11 t132.length co11] 37 (0, 0)) (by (with_reducible repeat (first | refine blk_drewN ?_ _ | refine blk_drew ?_ | refine blk_alloc ?_ _)); refine blk_put (cs := #[.int .i64 t131, .slice none 0 0]) ?_ 1 _ rfl; (with_reducible repeat (first | refine blk_drewN ?_ _ | refine blk_drew ?_ | refine blk_alloc ?_ _)); refine blk_put (cs := #[.int .i64 0, .slice none 0 0]) ?_ 0 _ rfl; (with_reducible repeat (first | refine blk_drewN ?_ _ | refine blk_drew ?_ | refine blk_alloc ?_ _)); exact BK137.out) hb); have n4_ := am (below_step pw hb); clear HO130 HO134 BK137 HB; revert n0_ n1_ n2_ n3_ n4_; intro HO130 HO134 HO141 BK137 HB; clear hb ho13; obtain ⟨Ao14, co14, eo14⟩ := Kd.R_slice HO141.out; subst eo14) | (go_at_call 31; (with_reducible refine (L2_isZone.calls k t131 _ _ t132 1 _ _ y139 t142 _ ?side1 ?side2 ?side3 ?side4 A4.out).mono ?_); (case side1 => repeat (first | exact (Kd.R_reads' HO134.out).2.2 | (with_reducible refine Kd.C_alloc ?_ _) | (with_reducible refine Kd.C_drewN ?_ _) | (with_reducible refine Kd.C_drew ?_))); (case side2 => exact (Kd.R_reads' HO134.out).2.1); (case side3 => repeat (first | exact (Kd.R_reads' HO141.out).2.2 | (with_reducible refine Kd.C_alloc ?_ _) | (with_reducible refine Kd.C_drewN ?_ _) | (with_reducible refine Kd.C_drew ?_))); (case side4 => exact (Kd.R_reads' HO141.out).2.1); rintro e w15 ⟨rfl, hb⟩; have n0_ := am (Kd.R_below (rk HO130) hb); have n1_ := am (Kd.R_below (rk HO134) hb); have n2_ := am (Kd.R_below (rk HO141) hb); have n3_ := bb BK137 hb; have n4_ := am (below_step pw hb); clear HO130 HO134 HO141 BK137 HB; revert n0_ n1_ n2_ n3_ n4_; intro HO130 HO134 HO141 BK137 HB; (try clear hb); (try clear hb2); (try clear hk); (try clear hi)))
    go_ret; exact ⟨pe, pw⟩
   replace c3 := Bool.eq_false_iff.mpr c3; subst c3
   have H1 : (some false) = some r := by rw [if_neg (show ¬ (false = true) by decide)] at H; exact H
   clear H; have H := H1; clear H1; obtain rfl := Option.some.inj H; go_enter Tryd.func20, Tryd.ntmps20
   go_wp2_with (first | ((with_reducible refine gate_dst (N := 5) rfl ?_); (try (refine gate_guard (by rfl) ?_; dsimp only)); refine Kd.R_make k42 _ 42 rfl (N := 5) rfl 35 _ _ rfl 4 rfl rfl Tryd.underlying35 (.agg #[(.bool false), (.int .i64 0)]) 16 info42 rfl (by decide) (by omega) z42 (ok := fun _ => True) (okp := fun _ => True) (k42_mkM _ _ _ z42 ) (fun _ hk => hk) trivial (by omega) (by omega) (Below.refl _ _) (Nat.le_refl _) ?_; intro v129 w16 ho17 hb hg_ hnew_; clear hg_ hnew_; (first | rw [← Ny128.out] at ho17 | (simp only [Int.reduceToNat] at ho17; rw [← Ny128.out] at ho17)); have n0_ := am (Kd.R_lower ho17 (below_size pw)); have n1_ := am (below_step pw hb); clear HB; revert n0_ n1_; intro HO130 HB; clear hb ho17; obtain ⟨Ao18, co18, eo18⟩ := Kd.R_slice HO130.out; subst eo18) | ((with_reducible refine gate_callee (f := 22) rfl ?_); refine goesL_ (some 7) rfl rfl Tryd.func22 kk rfl #[.agg #[.int .i64 1, .slice Ao18 y128.length co18]] rfl (by (try simp only [List.map_toArray, List.map_cons, List.map_nil]); first | done | rfl | (simp only [List.length_drop, List.length_take]; rfl)) ?_; (with_reducible refine (zone_Close.calls 1 _ _ y128 t131 t132 false none _ ?side1 ?side2 A2.out (am (ErrAt.below hE2.out pw)).out (am (ErrAt.below hE3.out pw)).out).mono ?_); (case side1 => repeat (first | exact (Kd.R_reads' HO130.out).2.2 | (with_reducible refine Kd.C_alloc ?_ _) | (with_reducible refine Kd.C_drewN ?_ _) | (with_reducible refine Kd.C_drew ?_))); (case side2 => exact (Kd.R_reads' HO130.out).2.1); rintro e w19 ⟨v133, rfl, ho0, hb⟩; refine ⟨_, rfl, ?_⟩; have n0_ := am (Kd.R_elder' (rk HO130) (Kd.R_base ho0) hb); have n1_ := am (Kd.R_lower (Kd.R_new' ho0 (Kd.R_lt (rk HO130))) (below_size pw)); have n2_ := am (below_step pw hb); clear HO130 HB; revert n0_ n1_ n2_; intro HO130 HO134 HB; (try clear hb); (try clear hb2); (try clear hk); (try clear hi); (try clear ho0); (try simp only [errW_none, errW_some])) | ((with_reducible refine gate_dst (N := 1) rfl ?_); (try (refine gate_guard (by rfl) ?_; dsimp only)); refine box_event ?hg (N := 1) ?hd (cs := #[.int .i64 0, .slice none 0 0]) (t := 37) ?hr ?_; (case hd => rfl); (case hg => rfl); (case hr => first | (go_simp; done) | (go_simp; rfl)); intro gb137 hg w20 hbox hb; have n0_ := am (Kd.R_below (rk HO130) hb); have n1_ := am (Kd.R_below (rk HO134) hb); have n2_ := am (below_step pw hb); have n3_ := am (hbox); have n4_ := am (sz (w := w) hg pw); have n5_ := am (sz (w := w) hg pw); clear HO130 HO134 HB; revert n0_ n1_ n2_ n3_ n4_ n5_; intro HO130 HO134 HB BK137 GW137 GE137; clear hb hbox hg; have hcz21_0 : w20.cell? ⟨gb137, 0, none⟩ = some (.int .i64 0) := bc BK137 0; have hcz21_1 : w20.cell? ⟨gb137, 1, none⟩ = some (.slice none 0 0) := bc BK137 1; have hfz21_0 := blk_frozen BK137.out 0; have hfz21_1 := blk_frozen BK137.out 1; obtain ⟨Ao22, co22, eo22⟩ := Kd.R_slice HO134.out; subst eo22))
   go_ret; exact ⟨pe, pw⟩
  have H1 : (some false) = some r := by rw [if_neg (show ¬ (some q138).isNone = true by simp)] at H; exact H
  clear H
  have H := H1
  clear H1
  try simp only [errW_none, errW_some]
  obtain rfl := Option.some.inj H
  go_enter Tryd.func20, Tryd.ntmps20
  go_wp2_with (first | ((with_reducible refine gate_dst (N := 5) rfl ?_); (try (refine gate_guard (by rfl) ?_; dsimp only)); refine Kd.R_make k42 _ 42 rfl (N := 5) rfl 35 _ _ rfl 4 rfl rfl Tryd.underlying35 (.agg #[(.bool false), (.int .i64 0)]) 16 info42 rfl (by decide) (by omega) z42 (ok := fun _ => True) (okp := fun _ => True) (k42_mkM _ _ _ z42 ) (fun _ hk => hk) trivial (by omega) (by omega) (Below.refl _ _) (Nat.le_refl _) ?_; intro v129 w23 ho24 hb hg_ hnew_; clear hg_ hnew_; (first | rw [← Ny128.out] at ho24 | (simp only [Int.reduceToNat] at ho24; rw [← Ny128.out] at ho24)); have n0_ := am (Kd.R_lower ho24 (below_size pw)); have n1_ := am (below_step pw hb); clear HB; revert n0_ n1_; intro HO130 HB; clear hb ho24; obtain ⟨Ao25, co25, eo25⟩ := Kd.R_slice HO130.out; subst eo25) | ((with_reducible refine gate_callee (f := 22) rfl ?_); refine goesL_ (some 7) rfl rfl Tryd.func22 kk rfl #[.agg #[.int .i64 1, .slice Ao25 y128.length co25]] rfl (by (try simp only [List.map_toArray, List.map_cons, List.map_nil]); first | done | rfl | (simp only [List.length_drop, List.length_take]; rfl)) ?_; (with_reducible refine (zone_Close.calls 1 _ _ y128 t131 t132 t135 (some q138) _ ?side1 ?side2 A2.out (am (ErrAt.below hE2.out pw)).out (am (ErrAt.below hE3.out pw)).out).mono ?_); (case side1 => repeat (first | exact (Kd.R_reads' HO130.out).2.2 | (with_reducible refine Kd.C_alloc ?_ _) | (with_reducible refine Kd.C_drewN ?_ _) | (with_reducible refine Kd.C_drew ?_))); (case side2 => exact (Kd.R_reads' HO130.out).2.1); rintro e w26 ⟨v133, rfl, ho0, hb⟩; refine ⟨_, rfl, ?_⟩; have n0_ := am (Kd.R_elder' (rk HO130) (Kd.R_base ho0) hb); have n1_ := am (Kd.R_lower (Kd.R_new' ho0 (Kd.R_lt (rk HO130))) (below_size pw)); have n2_ := am (below_step pw hb); clear HO130 HB; revert n0_ n1_ n2_; intro HO130 HO134 HB; (try clear hb); (try clear hb2); (try clear hk); (try clear hi); (try clear ho0); (try simp only [errW_none, errW_some])) | ((with_reducible refine gate_dst (N := 1) rfl ?_); (try (refine gate_guard (by rfl) ?_; dsimp only)); refine box_event ?hg (N := 1) ?hd (cs := #[.int .i64 0, .slice none 0 0]) (t := 37) ?hr ?_; (case hd => rfl); (case hg => rfl); (case hr => first | (go_simp; done) | (go_simp; rfl)); intro gb137 hg w27 hbox hb; have n0_ := am (Kd.R_below (rk HO130) hb); have n1_ := am (Kd.R_below (rk HO134) hb); have n2_ := am (below_step pw hb); have n3_ := am (hbox); have n4_ := am (sz (w := w) hg pw); have n5_ := am (sz (w := w) hg pw); clear HO130 HO134 HB; revert n0_ n1_ n2_ n3_ n4_ n5_; intro HO130 HO134 HB BK137 GW137 GE137; clear hb hbox hg; have hcz28_0 : w27.cell? ⟨gb137, 0, none⟩ = some (.int .i64 0) := bc BK137 0; have hcz28_1 : w27.cell? ⟨gb137, 1, none⟩ = some (.slice none 0 0) := bc BK137 1; have hfz28_0 := blk_frozen BK137.out 0; have hfz28_1 := blk_frozen BK137.out 1; obtain ⟨Ao29, co29, eo29⟩ := Kd.R_slice HO134.out; subst eo29))
  go_ret
  exact ⟨pe, pw⟩
 rw [if_neg c1] at H
 exact absurd H (by simp)

/-! ### R2_Far: function 37 -/
def R2_Far.f (a0 : Int) (a1 : Int) : Option (Bool) := if a0 > a1 then (some true) else (some (decide (a0 < (wrap64 (-a1)))))
set_option maxHeartbeats 8000000 in
set_option maxRecDepth 100000 in
theorem R2_Far.calls [EA] (a0 : Int) (a1 : Int) (r : Bool) (w : World) (h : R2_Far.f a0 a1 = some r) :
  Calls Tryd.prog 37 #[.int .i64 a0, .int .i64 a1] w fun e w' => e = .returned (.bool r) ∧ Drawn0 w w' := by
 have H : (if a0 > a1 then (some true) else (some (decide (a0 < (wrap64 (-a1)))))) = some r := h
 clear h
 by_cases c3 : a0 > a1
 ·rw [if_pos c3] at H
  have c3b0 : decide (a1 < a0) = true := decide_eq_true c3
  clear c3
  obtain rfl := Option.some.inj H
  go_enter Tryd.func37, Tryd.ntmps37
  go_wp2
  go_ret
  exact ⟨by first | rfl | (simp; done) | (simp [*]; done), by repeat (first | exact Drawn0.refl _ | apply Drawn0.step)⟩
 rw [if_neg c3] at H
 have c3b0 : decide (a1 < a0) = false := decide_eq_false c3
 clear c3
 obtain rfl := Option.some.inj H
 go_enter Tryd.func37, Tryd.ntmps37
 go_wp2
 go_ret
 exact ⟨by first | rfl | (simp; done) | (simp [*]; done), by repeat (first | exact Drawn0.refl _ | apply Drawn0.step)⟩

/-! ### R2_Near: function 69 -/
def R2_Near.l0 : Nat → List (S112) → Int → Int → Option (Bool)
 | 0, _, _, _ => none
 | k + 1, x0, x1, x5 => if x5 < (x0.length : Int) then (if 0 ≤ x5 then ((R2_Far.f ((rd_T112 x0 x5).f1) x1).bind fun t144 => (if t144 = true then (some false) else (R2_Near.l0 k x0 x1 (wrap64 (x5 + 1))))) else (none)) else (some true)
def R2_Near.f (k : Nat) (l0 : List (S112)) (a1 : Int) : Option (Bool) := R2_Near.l0 k l0 a1 0
theorem R2_Near.mono_l : ∀ k, (∀ y0 y1 y2, LeO (R2_Near.l0 k y0 y1 y2) (R2_Near.l0 (k + 1) y0 y1 y2))
 | 0 => fun _ _ _ r h => by simp [R2_Near.l0] at h
 | k + 1 => by
  have ih0 := R2_Near.mono_l k
  intro y0 y1 y2
  unfold R2_Near.l0
  repeat' first
  | (with_reducible exact ih0 _ _ _)
  | (with_reducible exact LeO.refl _)
  | (with_reducible exact LeO.none _)
  | (with_reducible refine LeO.ite ?_ ?_)
  | (with_reducible refine LeO.bind ?_ (fun _ => ?_))
  | exact ih0 _ _ _
  | exact LeO.none _
  | refine LeO.ite ?_ ?_
  | refine LeO.bind ?_ (fun _ => ?_)
theorem R2_Near.mono : ∀ a0 a1 k, LeO (R2_Near.f k a0 a1) (R2_Near.f (k + 1) a0 a1) := by
 intro a0 a1 k
 have ih0 := R2_Near.mono_l k
 unfold R2_Near.f
 repeat' first
   | (with_reducible exact ih0 _ _ _)
   | (with_reducible exact LeO.refl _)
   | (with_reducible exact LeO.none _)
   | (with_reducible refine LeO.ite ?_ ?_)
   | (with_reducible refine LeO.bind ?_ (fun _ => ?_))
   | exact ih0 _ _ _
   | exact LeO.none _
   | refine LeO.ite ?_ ?_
   | refine LeO.bind ?_ (fun _ => ?_)
set_option maxHeartbeats 8000000 in
set_option maxRecDepth 100000 in
theorem R2_Near.calls [EA] (k : Nat) (A0 : Option Addr) (c0 : Nat) (l0 : List (S112)) (a1 : Int) (r : Bool) (w : World) (hr0 : Kd.C k112 w A0 l0.length l0) (hc0 : l0.length ≤ c0) (h : R2_Near.f k l0 a1 = some r) :
  Calls Tryd.prog 69 #[.slice A0 l0.length c0, .int .i64 a1] w fun e w' => e = .returned (.bool r) ∧ Drawn0 w w' := by
 have HR0 := am hr0
 have HC0 := am hc0
 clear hr0 hc0
 have H : (R2_Near.l0 k l0 a1 0) = some r := h
 clear h
 have H' := am H
 clear H
 go_enter Tryd.func69, Tryd.ntmps69
 go_wp2
 go_loopg [5] k (fun kq v5 w' => ∃ (x5_1 : Int), v5 = .int .i64 x5_1 ∧ Aside0 (R2_Near.l0 kq l0 a1 x5_1 = some r) ∧ Aside0 (kq ≤ k) ∧ Drawn0 w w')
 case atStart => exact ⟨(0), pr, H', ⟨Nat.le_refl _⟩, by repeat (first | exact Drawn0.refl _ | apply Drawn0.step)⟩
 case round =>
  clear H'
  (try clear p2)
  obtain ⟨x5_1, rfl, HA, HK1, ⟨m1, rfl⟩⟩ := hrel
  cases gk with
  | zero => exact absurd HA.out (by simp [R2_Near.l0])
  | succ k1 =>
   have H := HA.out; clear HA; simp only [R2_Near.l0] at H; by_cases c3 : x5_1 < (l0.length : Int)
   ·rw [if_pos c3] at H
    have c3b0 : decide (x5_1 < (l0.length : Int)) = true := decide_eq_true c3; clear c3; by_cases c4 : 0 ≤ x5_1
    ·rw [if_pos c4] at H
     have c4b0 : decide (0 ≤ x5_1) = true := decide_eq_true c4; clear c4; replace H := Option.bind_eq_some_iff.mp H; obtain ⟨t144, A50, H⟩ := H; replace H : (if t144 = true then (some false) else (R2_Near.l0 k1 l0 a1 (wrap64 (x5_1 + 1)))) = some r := H; have A5 := am A50; clear A50; by_cases c6 : t144 = true
     ·subst c6
      have H1 : (some false) = some r := by rw [if_pos rfl] at H; exact H
      clear H; have H := H1; clear H1; obtain rfl := Option.some.inj H; have p143 : 0 ≤ (x5_1 : Int) := od; have q143 : x5_1 < (l0.length : Int) := od; obtain ⟨ad143, e143, hx143_0, hx143_1⟩ := at_T112 HR0.out x5_1 p143 q143; cases e143; replace p143 := eq_true p143; replace q143 := eq_true q143; go_wp2_with (first | ((with_reducible refine gate_callee (f := 37) rfl ?_); refine goesL_ (some 19) rfl rfl Tryd.func37 kk rfl #[.int .i64 ((rd_T112 l0 x5_1).f1), .int .i64 a1] rfl (by (try simp only [List.map_toArray, List.map_cons, List.map_nil]); first | done | rfl | (simp only [List.length_drop, List.length_take]; rfl)) ?_; (with_reducible refine (R2_Far.calls ((rd_T112 l0 x5_1).f1) a1 true _ A5.out).mono ?_); rintro e w' ⟨rfl, ⟨nd, rfl⟩⟩; refine ⟨_, rfl, ?_⟩)); go_ret; exact ⟨by first | rfl | (simp; done) | (simp [*]; done), by repeat (first | exact Drawn0.refl _ | apply Drawn0.step)⟩
     replace c6 := Bool.eq_false_iff.mpr c6; subst c6
     have H1 : (R2_Near.l0 k1 l0 a1 (wrap64 (x5_1 + 1))) = some r := by rw [if_neg (show ¬ (false = true) by decide)] at H; exact H
     clear H; have H := H1; clear H1; have H' := am H; clear H; have p143 : 0 ≤ (x5_1 : Int) := od; have q143 : x5_1 < (l0.length : Int) := od; obtain ⟨ad143, e143, hx143_0, hx143_1⟩ := at_T112 HR0.out x5_1 p143 q143; cases e143; replace p143 := eq_true p143; replace q143 := eq_true q143; go_wp2_with (first | ((with_reducible refine gate_callee (f := 37) rfl ?_); refine goesL_ (some 19) rfl rfl Tryd.func37 kk rfl #[.int .i64 ((rd_T112 l0 x5_1).f1), .int .i64 a1] rfl (by (try simp only [List.map_toArray, List.map_cons, List.map_nil]); first | done | rfl | (simp only [List.length_drop, List.length_take]; rfl)) ?_; (with_reducible refine (R2_Far.calls ((rd_T112 l0 x5_1).f1) a1 false _ A5.out).mono ?_); rintro e w' ⟨rfl, ⟨nd, rfl⟩⟩; refine ⟨_, rfl, ?_⟩)); go_roundg k1
     case measure => have := HK1.out; omega
     case rel => exact ⟨(wrap64 (x5_1 + 1)), pr, H', ⟨by have := HK1.out; omega⟩, by repeat (first | exact Drawn0.refl _ | apply Drawn0.step)⟩
    rw [if_neg c4] at H; exact absurd H (by simp)
   rw [if_neg c3] at H; have c3b0 : decide (x5_1 < (l0.length : Int)) = false := decide_eq_false c3; clear c3; obtain rfl := Option.some.inj H; go_wp2; go_ret; exact ⟨by first | rfl | (simp; done) | (simp [*]; done), by repeat (first | exact Drawn0.refl _ | apply Drawn0.step)⟩

/-! ### L2_near: function 21 -/
def L2_near.f (k : Nat) (l0 : List (S112)) : Option (Bool) := if (l0.length : Int) ≤ 100 then ((R2_Near.f k l0 1048576).bind fun t145 => (some t145)) else (some false)
theorem L2_near.mono : ∀ a0 k, LeO (L2_near.f k a0) (L2_near.f (k + 1) a0) := by
 intro a0 k
 unfold L2_near.f
 repeat' first
   | (with_reducible exact R2_Near.mono _ _ _)
   | (with_reducible exact LeO.refl _)
   | (with_reducible exact LeO.none _)
   | (with_reducible refine LeO.ite ?_ ?_)
   | (with_reducible refine LeO.bind ?_ (fun _ => ?_))
   | exact R2_Near.mono _ _ _
   | exact LeO.none _
   | refine LeO.ite ?_ ?_
   | refine LeO.bind ?_ (fun _ => ?_)
set_option maxHeartbeats 8000000 in
set_option maxRecDepth 100000 in
theorem L2_near.calls [EA] (k : Nat) (A0 : Option Addr) (c0 : Nat) (l0 : List (S112)) (r : Bool) (w : World) (hr0 : Kd.C k112 w A0 l0.length l0) (hc0 : l0.length ≤ c0) (h : L2_near.f k l0 = some r) :
  Calls Tryd.prog 21 #[.slice A0 l0.length c0] w fun e w' => e = .returned (.bool r) ∧ Drawn0 w w' := by
 have HR0 := am hr0
 have HC0 := am hc0
 clear hr0 hc0
 have H : (if (l0.length : Int) ≤ 100 then ((R2_Near.f k l0 1048576).bind fun t145 => (some t145)) else (some false)) = some r := h
 clear h
 by_cases c2 : (l0.length : Int) ≤ 100
 ·rw [if_pos c2] at H
  have c2b0 : decide ((l0.length : Int) ≤ 100) = true := decide_eq_true c2
  have c2b1 : decide (l0.length ≤ 100) = true := decide_eq_true (by omega)
  clear c2
  replace H := Option.bind_eq_some_iff.mp H
  obtain ⟨t145, A30, H⟩ := H
  replace H : (some t145) = some r := H
  have A3 := am A30
  clear A30
  obtain rfl := Option.some.inj H
  go_enter Tryd.func21, Tryd.ntmps21
  go_wp2_with (first | (go_at_call 69; (with_reducible refine (R2_Near.calls k _ _ l0 1048576 t145 _ ?side1 ?side2 A3.out).mono ?_); (case side1 => repeat (first | exact HR0.out | (with_reducible refine Kd.C_alloc ?_ _) | (with_reducible refine Kd.C_drewN ?_ _) | (with_reducible refine Kd.C_drew ?_))); (case side2 => exact HC0.out); rintro e w' ⟨rfl, ⟨nd, rfl⟩⟩))
  go_ret
  exact ⟨by first | rfl | (simp; done) | (simp [*]; done), by repeat (first | exact Drawn0.refl _ | apply Drawn0.step)⟩
 rw [if_neg c2] at H
 have c2b0 : decide ((l0.length : Int) ≤ 100) = false := decide_eq_false c2
 have c2b1 : decide (l0.length ≤ 100) = false := decide_eq_false (by omega)
 clear c2
 obtain rfl := Option.some.inj H
 go_enter Tryd.func21, Tryd.ntmps21
 go_wp2
 go_ret
 exact ⟨by first | rfl | (simp; done) | (simp [*]; done), by repeat (first | exact Drawn0.refl _ | apply Drawn0.step)⟩

end Go.Proofs.YtjpboodkmhikpaaDoor.Z
