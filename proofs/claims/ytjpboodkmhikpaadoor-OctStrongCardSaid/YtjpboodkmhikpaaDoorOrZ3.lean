import Derived.Test.YtjpboodkmhikpaaDoorOrSp
import Derived.Test.YtjpboodkmhikpaaDoorOrEb
import Derived.Test.YtjpboodkmhikpaaDoorOrZv
import Derived.Test.YtjpboodkmhikpaaDoorOrZ0
import Derived.Test.YtjpboodkmhikpaaDoorOrZ2
-- Written by wip/xprint.py (the session's program over the kit's print).
namespace Go.Proofs.YtjpboodkmhikpaaDoor.Z
open Go.RowKit Go.Proofs.YtjpboodkmhikpaaDoorW.PrintWords Go.Proofs.YtjpboodkmhikpaaDoorW.PrintLast Go.Proofs.YtjpboodkmhikpaaDoorW.PrintMore Go.Proofs.Rcg
attribute [local go_sem] max2_int min2_int max_two min_two max_three min_three max_four min_four   -- for this text's walks alone
set_option linter.unusedVariables false
set_option linter.unusedSimpArgs false

attribute [local go_sem high] eqA112
/-! ### zone_Close: function 22 -/
def zone_Close.f (a0_0 : Int) (l0_1 : List (S42)) : Option (Int × (List (S42)) × Bool × Option Int) := (zone_Valid.f a0_0 l0_1).bind fun t103 => (if t103.isNone = true then ((zone_Zone_close.f a0_0 l0_1).bind fun bt105 => (some (bt105.1, bt105.2.1, bt105.2.2, none))) else (some (0, ([] : List (S42)), false, some (t103.getD 0))))
set_option maxHeartbeats 8000000 in
set_option maxRecDepth 100000 in
theorem zone_Close.calls [EA] (a0_0 : Int) (A0_1 : Option Addr) (c0_1 : Nat) (l0_1 : List (S42)) (r1 : Int) (r2 : List (S42)) (r3 : Bool) (r4 : Option Int) (w : World) (hr0_1 : Kd.C k42 w A0_1 l0_1.length l0_1) (hc0_1 : l0_1.length ≤ c0_1) (h : zone_Close.f a0_0 l0_1 = some (r1, r2, r3, r4)) (h2_ : ErrAt 2 1 w) (h3_ : ErrAt 3 0 w) :
  Calls Tryd.prog 22 #[.agg #[.int .i64 a0_0, .slice A0_1 l0_1.length c0_1]] w fun e w' => ∃ v1_ : Value, e = .returned (.tuple #[.agg #[.int .i64 r1, v1_], .bool r3, errW r4]) ∧ Kd.R k42 42 w' w.heap.size (fun _ => True) v1_ r2 ∧ Below w.heap.size w w' := by
 have hE2 := am h2_
 clear h2_
 have hE3 := am h3_
 clear h3_
 have hu37 := Tryd.underlying37
 have hu26 := Tryd.underlying26
 have HR0_1 := am hr0_1
 have HC0_1 := am hc0_1
 clear hr0_1 hc0_1
 have HB := am (Below.refl w.heap.size w)
 have H : ((zone_Valid.f a0_0 l0_1).bind fun t103 => (if t103.isNone = true then ((zone_Zone_close.f a0_0 l0_1).bind fun bt105 => (some (bt105.1, bt105.2.1, bt105.2.2, none))) else (some (0, ([] : List (S42)), false, some (t103.getD 0))))) = some (r1, r2, r3, r4) := h
 clear h
 replace H := Option.bind_eq_some_iff.mp H
 obtain ⟨t103, A20, H⟩ := H
 replace H : (if t103.isNone = true then ((zone_Zone_close.f a0_0 l0_1).bind fun bt105 => (some (bt105.1, bt105.2.1, bt105.2.2, none))) else (some (0, ([] : List (S42)), false, some (t103.getD 0)))) = some (r1, r2, r3, r4) := H
 have A2 := am A20
 clear A20
 rcases t103 with _ | q104
 ·have H1 : ((zone_Zone_close.f a0_0 l0_1).bind fun bt105 => (some (bt105.1, bt105.2.1, bt105.2.2, none))) = some (r1, r2, r3, r4) := by rw [if_pos (show (none : Option Int).isNone = true by rfl)] at H; exact H
  clear H
  have H := H1
  clear H1
  try simp only [errW_none, errW_some]
  replace H := Option.bind_eq_some_iff.mp H
  obtain ⟨⟨t105, t106, t109⟩, A30, H⟩ := H
  replace H : (some (t105, t106, t109, none)) = some (r1, r2, r3, r4) := H
  have A3 := am A30
  clear A30
  simp only [Option.some.injEq, Prod.mk.injEq] at H
  obtain ⟨rfl, rfl, rfl, rfl⟩ := H
  go_enter Tryd.func22, Tryd.ntmps22
  go_wp2_with (first | ((with_reducible refine gate_dst (N := 1) rfl ?_); refine box_event ?hg (N := 1) ?hd (cs := #[.int .i64 a0_0, .slice A0_1 l0_1.length c0_1]) (t := 37) ?hr ?_; (case hd => rfl); (case hg => rfl); (case hr => first | (go_simp; done) | (go_simp; rfl)); intro gb101 hg w4 hbox hb; have n0_ := am (below_step pw hb); have n1_ := am (hbox); have n2_ := am (sz (w := w) hg pw); have n3_ := am (sz (w := w) hg pw); clear HB; revert n0_ n1_ n2_ n3_; intro HB BK101 GW101 GE101; clear hb hbox hg) | ((with_reducible refine gate_dst (N := 2) rfl ?_); refine box_event ?hg (N := 2) ?hd (cs := #[.int .i64 0, .slice none 0 0]) (t := 37) ?hr ?_; (case hd => rfl); (case hg => rfl); (case hr => first | (go_simp; done) | (go_simp; rfl)); intro gb102 hg w5 hbox hb; have n0_ := bb BK101 hb; have n1_ := am (below_step pw hb); have n2_ := am (hbox); have n3_ := am (sz (w := w) hg pw); have n4_ := am (sz (w := w) hg pw); have n5_ := am (nl BK101 hg); have n6_ := am ((nl BK101 hg).symm); clear BK101 HB; revert n0_ n1_ n2_ n3_ n4_ n5_ n6_; intro BK101 HB BK102 GW102 GE102 NB101_102 NB102_101; clear hb hbox hg; have hnb6 := NB101_102.out; have hnc6 := NB102_101.out; have hcz7_0 : w5.cell? ⟨gb101, 0, none⟩ = some (.int .i64 a0_0) := bc BK101 0; have hcz7_1 : w5.cell? ⟨gb101, 1, none⟩ = some (.slice A0_1 l0_1.length c0_1) := bc BK101 1; have hfz7_0 := blk_frozen BK101.out 0; have hfz7_1 := blk_frozen BK101.out 1) | ((with_reducible refine gate_callee (f := 70) rfl ?_); refine goesL_ (some 9) rfl rfl Tryd.func70 kk rfl #[.agg #[.int .i64 a0_0, .slice A0_1 l0_1.length c0_1]] rfl (by (try simp only [List.map_toArray, List.map_cons, List.map_nil]); first | done | rfl | (simp only [List.length_drop, List.length_take]; rfl)) ?_; (with_reducible refine (zone_Valid.calls a0_0 _ _ l0_1 none _ ?side1 ?side2 A2.out (am (ErrAt.below hE2.out pw)).out (am (ErrAt.below hE3.out pw)).out).mono ?_); (case side1 => repeat (first | exact (Kd.C_below HR0_1.out HB.out) | (with_reducible refine Kd.C_alloc ?_ _) | (with_reducible refine Kd.C_drewN ?_ _) | (with_reducible refine Kd.C_drew ?_))); (case side2 => exact HC0_1.out); rintro e w8 ⟨rfl, hb⟩; refine ⟨_, rfl, ?_⟩; have n0_ := bb BK101 hb; have n1_ := bb BK102 hb; have n2_ := am (below_step pw hb); clear BK101 BK102 HB; revert n0_ n1_ n2_; intro BK101 BK102 HB; (try clear hb); (try clear hb2); (try clear hk); (try clear hi); (try simp only [errW_none, errW_some]); have hcz9_0 : w8.cell? ⟨gb101, 0, none⟩ = some (.int .i64 a0_0) := bc BK101 0; have hcz9_1 : w8.cell? ⟨gb101, 1, none⟩ = some (.slice A0_1 l0_1.length c0_1) := bc BK101 1; have hfz9_0 := blk_frozen BK101.out 0; have hfz9_1 := blk_frozen BK101.out 1) | ((with_reducible refine gate_callee (f := 71) rfl ?_); refine goesL_ (some 16) rfl rfl Tryd.func71 kk rfl #[.agg #[.int .i64 a0_0, .slice A0_1 l0_1.length c0_1]] rfl (by (try simp only [List.map_toArray, List.map_cons, List.map_nil]); first | done | rfl | (simp only [List.length_drop, List.length_take]; rfl)) ?_; (with_reducible refine (zone_Zone_close.calls a0_0 _ _ l0_1 t105 t106 t109 _ ?side1 ?side2 A3.out).mono ?_); (case side1 => repeat (first | exact (Kd.C_below HR0_1.out HB.out) | (with_reducible refine Kd.C_alloc ?_ _) | (with_reducible refine Kd.C_drewN ?_ _) | (with_reducible refine Kd.C_drew ?_))); (case side2 => exact HC0_1.out); rintro e w10 ⟨v107, rfl, ho0, hb⟩; refine ⟨_, rfl, ?_⟩; have n0_ := am (Kd.R_lower ho0 (below_size pw)); have n1_ := bb BK101 hb; have n2_ := bb BK102 hb; have n3_ := am (below_step pw hb); clear BK101 BK102 HB; revert n0_ n1_ n2_ n3_; intro HO108 BK101 BK102 HB; (try clear hb); (try clear hb2); (try clear hk); (try clear hi); (try clear ho0)) | ((with_reducible refine gate_dst (N := 6) rfl ?_); refine box_event ?hg (N := 6) ?hd (cs := #[.int .i64 0, .slice none 0 0]) (t := 37) ?hr ?_; (case hd => rfl); (case hg => rfl); (case hr => first | (go_simp; done) | (go_simp; rfl)); intro gb110 hg w11 hbox hb; have n0_ := am (Kd.R_below (rk HO108) hb); have n1_ := bb BK101 hb; have n2_ := bb BK102 hb; have n3_ := am (below_step pw hb); have n4_ := am (hbox); have n5_ := am (sz (w := w) hg pw); have n6_ := am (sz (w := w) hg pw); have n7_ := am (nl BK101 hg); have n8_ := am ((nl BK101 hg).symm); have n9_ := am (nl BK102 hg); have n10_ := am ((nl BK102 hg).symm); clear HO108 BK101 BK102 HB; revert n0_ n1_ n2_ n3_ n4_ n5_ n6_ n7_ n8_ n9_ n10_; intro HO108 BK101 BK102 HB BK110 GW110 GE110 NB101_110 NB110_101 NB102_110 NB110_102; clear hb hbox hg; have hnb12 := NB110_101.out; have hnc12 := NB101_110.out; have hnb13 := NB110_102.out; have hnc13 := NB102_110.out; have hcz14_0 : w11.cell? ⟨gb110, 0, none⟩ = some (.int .i64 0) := bc BK110 0; have hcz14_1 : w11.cell? ⟨gb110, 1, none⟩ = some (.slice none 0 0) := bc BK110 1; have hfz14_0 := blk_frozen BK110.out 0; have hfz14_1 := blk_frozen BK110.out 1; obtain ⟨Ao15, co15, eo15⟩ := Kd.R_slice HO108.out; subst eo15; have hcz16_0 : w11.cell? ⟨gb102, 0, none⟩ = some (.int .i64 0) := bc BK102 0; have hcz16_1 : w11.cell? ⟨gb102, 1, none⟩ = some (.slice none 0 0) := bc BK102 1; have hfz16_0 := blk_frozen BK102.out 0; have hfz16_1 := blk_frozen BK102.out 1))
  refine bodyPost_ret (results_ctt rfl _ _ gb102 37 #[.int .i64 t105, .slice Ao15 t106.length co15] (0, 0) _ rfl (by (with_reducible repeat (first | refine blk_drewN ?_ _ | refine blk_drew ?_ | refine blk_alloc ?_ _)); refine blk_put (cs := #[.int .i64 t105, .slice none 0 0]) ?_ 1 _ rfl; (with_reducible repeat (first | refine blk_drewN ?_ _ | refine blk_drew ?_ | refine blk_alloc ?_ _)); refine blk_put (cs := #[.int .i64 0, .slice none 0 0]) ?_ 0 _ rfl; (with_reducible repeat (first | refine blk_drewN ?_ _ | refine blk_drew ?_ | refine blk_alloc ?_ _)); refine blk_far ?_ NB102_110.out _; (with_reducible repeat (first | refine blk_drewN ?_ _ | refine blk_drew ?_ | refine blk_alloc ?_ _)); refine blk_far ?_ NB102_110.out _; (with_reducible repeat (first | refine blk_drewN ?_ _ | refine blk_drew ?_ | refine blk_alloc ?_ _)); exact BK102.out) Tryd.underlying37 rfl kk) rfl ?_
  exact ⟨_, pe, by (with_reducible repeat (first | apply Kd.R_alloc | apply Kd.R_drewN | apply Kd.R_drew)); exact Kd.R_mono (Kd.R_far (p := ⟨gb102, 1, none⟩) (Kd.R_far (p := ⟨gb102, 0, none⟩) (Kd.R_far (p := ⟨gb110, 1, none⟩) (Kd.R_far (p := ⟨gb110, 0, none⟩) (Kd.R_types (Kd.R_types HO108.out BK110.out (by decide)) BK102.out (by decide)) (fun _ hk => hk.1.2) (.int .i64 t105)) (fun _ hk => hk.1.2) (.slice Ao15 t106.length co15)) (fun _ hk => hk.2) (.int .i64 t105)) (fun _ hk => hk.2) (.slice Ao15 t106.length co15)) (fun _ hk => trivial), pw⟩
 have H1 : (some (0, ([] : List (S42)), false, some q104)) = some (r1, r2, r3, r4) := by rw [if_neg (show ¬ (some q104).isNone = true by simp)] at H; exact H
 clear H
 have H := H1
 clear H1
 try simp only [errW_none, errW_some]
 simp only [Option.some.injEq, Prod.mk.injEq] at H
 obtain ⟨rfl, rfl, rfl, rfl⟩ := H
 go_enter Tryd.func22, Tryd.ntmps22
 go_wp2_with (first | ((with_reducible refine gate_dst (N := 1) rfl ?_); refine box_event ?hg (N := 1) ?hd (cs := #[.int .i64 a0_0, .slice A0_1 l0_1.length c0_1]) (t := 37) ?hr ?_; (case hd => rfl); (case hg => rfl); (case hr => first | (go_simp; done) | (go_simp; rfl)); intro gb101 hg w17 hbox hb; have n0_ := am (below_step pw hb); have n1_ := am (hbox); have n2_ := am (sz (w := w) hg pw); have n3_ := am (sz (w := w) hg pw); clear HB; revert n0_ n1_ n2_ n3_; intro HB BK101 GW101 GE101; clear hb hbox hg) | ((with_reducible refine gate_dst (N := 2) rfl ?_); refine box_event ?hg (N := 2) ?hd (cs := #[.int .i64 0, .slice none 0 0]) (t := 37) ?hr ?_; (case hd => rfl); (case hg => rfl); (case hr => first | (go_simp; done) | (go_simp; rfl)); intro gb102 hg w18 hbox hb; have n0_ := bb BK101 hb; have n1_ := am (below_step pw hb); have n2_ := am (hbox); have n3_ := am (sz (w := w) hg pw); have n4_ := am (sz (w := w) hg pw); have n5_ := am (nl BK101 hg); have n6_ := am ((nl BK101 hg).symm); clear BK101 HB; revert n0_ n1_ n2_ n3_ n4_ n5_ n6_; intro BK101 HB BK102 GW102 GE102 NB101_102 NB102_101; clear hb hbox hg; have hnb19 := NB101_102.out; have hnc19 := NB102_101.out; have hcz20_0 : w18.cell? ⟨gb101, 0, none⟩ = some (.int .i64 a0_0) := bc BK101 0; have hcz20_1 : w18.cell? ⟨gb101, 1, none⟩ = some (.slice A0_1 l0_1.length c0_1) := bc BK101 1; have hfz20_0 := blk_frozen BK101.out 0; have hfz20_1 := blk_frozen BK101.out 1) | ((with_reducible refine gate_callee (f := 70) rfl ?_); refine goesL_ (some 9) rfl rfl Tryd.func70 kk rfl #[.agg #[.int .i64 a0_0, .slice A0_1 l0_1.length c0_1]] rfl (by (try simp only [List.map_toArray, List.map_cons, List.map_nil]); first | done | rfl | (simp only [List.length_drop, List.length_take]; rfl)) ?_; (with_reducible refine (zone_Valid.calls a0_0 _ _ l0_1 (some q104) _ ?side1 ?side2 A2.out (am (ErrAt.below hE2.out pw)).out (am (ErrAt.below hE3.out pw)).out).mono ?_); (case side1 => repeat (first | exact (Kd.C_below HR0_1.out HB.out) | (with_reducible refine Kd.C_alloc ?_ _) | (with_reducible refine Kd.C_drewN ?_ _) | (with_reducible refine Kd.C_drew ?_))); (case side2 => exact HC0_1.out); rintro e w21 ⟨rfl, hb⟩; refine ⟨_, rfl, ?_⟩; have n0_ := bb BK101 hb; have n1_ := bb BK102 hb; have n2_ := am (below_step pw hb); clear BK101 BK102 HB; revert n0_ n1_ n2_; intro BK101 BK102 HB; (try clear hb); (try clear hb2); (try clear hk); (try clear hi); (try simp only [errW_none, errW_some]); have hcz22_0 : w21.cell? ⟨gb102, 0, none⟩ = some (.int .i64 0) := bc BK102 0; have hcz22_1 : w21.cell? ⟨gb102, 1, none⟩ = some (.slice none 0 0) := bc BK102 1; have hfz22_0 := blk_frozen BK102.out 0; have hfz22_1 := blk_frozen BK102.out 1))
 refine bodyPost_ret (results_ctt rfl _ _ gb102 37 #[.int .i64 0, .slice none 0 0] (0, 0) _ rfl (by (with_reducible repeat (first | refine blk_drewN ?_ _ | refine blk_drew ?_ | refine blk_alloc ?_ _)); refine blk_put (cs := #[.int .i64 0, .slice none 0 0]) ?_ 1 _ rfl; (with_reducible repeat (first | refine blk_drewN ?_ _ | refine blk_drew ?_ | refine blk_alloc ?_ _)); refine blk_put (cs := #[.int .i64 0, .slice none 0 0]) ?_ 0 _ rfl; (with_reducible repeat (first | refine blk_drewN ?_ _ | refine blk_drew ?_ | refine blk_alloc ?_ _)); exact BK102.out) Tryd.underlying37 rfl kk) rfl ?_
 exact ⟨_, pe, by first | exact Kd.R_nil _ _ _ _ _ | exact Kd.N_nil _ _ _ _ _ | exact Kd.V_nil _ _ _ _ _ | exact Kd.Q_nil _ _ _ _ _ | exact Kd.S_nil _ _ _ _ _, pw⟩

/-! ### L2_zoneBack: function 32 -/
def L2_zoneBack.l0 : Nat → Int → Int → List (S42) → Int → List (S112) → Option (Int × (List (S112)))
 | 0, _, _, _, _, _ => none
 | k + 1, x4, x112000, x112001, x114000, x114001 => if x4 < (x112001.length : Int) then (if 0 ≤ x4 then (if x114001.length < 8796093022208 then (L2_zoneBack.l0 k (wrap64 (x4 + 1)) x112000 x112001 x114000 (x114001 ++ [(⟨(rd_T42 x112001 x4).f0, (rd_T42 x112001 x4).f1⟩ : S112)])) else (none)) else (none)) else (some (x114000, x114001))
def L2_zoneBack.f (k : Nat) (a0_0 : Int) (l0_1 : List (S42)) : Option (Int × (List (S112))) := L2_zoneBack.l0 k 0 a0_0 l0_1 a0_0 ([] : List (S112))
theorem L2_zoneBack.mono_l : ∀ k, (∀ y0 y1 y2 y3 y4, LeO (L2_zoneBack.l0 k y0 y1 y2 y3 y4) (L2_zoneBack.l0 (k + 1) y0 y1 y2 y3 y4))
 | 0 => fun _ _ _ _ _ r h => by simp [L2_zoneBack.l0] at h
 | k + 1 => by
  have ih0 := L2_zoneBack.mono_l k
  intro y0 y1 y2 y3 y4
  unfold L2_zoneBack.l0
  repeat' first
  | (with_reducible exact ih0 _ _ _ _ _)
  | (with_reducible exact LeO.refl _)
  | (with_reducible exact LeO.none _)
  | (with_reducible refine LeO.ite ?_ ?_)
  | (with_reducible refine LeO.bind ?_ (fun _ => ?_))
  | exact ih0 _ _ _ _ _
  | exact LeO.none _
  | refine LeO.ite ?_ ?_
  | refine LeO.bind ?_ (fun _ => ?_)
theorem L2_zoneBack.mono : ∀ a0 a1 k, LeO (L2_zoneBack.f k a0 a1) (L2_zoneBack.f (k + 1) a0 a1) := by
 intro a0 a1 k
 have ih0 := L2_zoneBack.mono_l k
 unfold L2_zoneBack.f
 repeat' first
   | (with_reducible exact ih0 _ _ _ _ _)
   | (with_reducible exact LeO.refl _)
   | (with_reducible exact LeO.none _)
   | (with_reducible refine LeO.ite ?_ ?_)
   | (with_reducible refine LeO.bind ?_ (fun _ => ?_))
   | exact ih0 _ _ _ _ _
   | exact LeO.none _
   | refine LeO.ite ?_ ?_
   | refine LeO.bind ?_ (fun _ => ?_)
def L2_zoneBack.T5 : Bool × List (List Nat × List Nat) := (true, [([], []), ([0], [0]), ([], []), ([2], [2]), ([], []), ([3, 4], [3, 4]), ([5], [5]), ([6], [6]), ([], []), ([8], [8]), ([], []), ([9, 10], [9, 10]), ([11], [11]), ([12], [12]), ([7, 13], [7, 13]), ([14], [14]), ([1, 15], [1, 15]), ([0, 1, 2, 3, 4, 5, 6, 7, 8, 9, 10, 11, 12, 13, 14, 15, 16], []), ([17, 16, 16, 0, 1, 2, 3, 4, 5, 6, 7, 8, 9, 10, 11, 12, 13, 14, 15, 16], [16, 17])])
def L2_zoneBack.B5 : List Nat := [0, 1, 0, 4, 0, 28, 60, 124, 0, 256, 0, 1792, 3840, 7936, 16380, 32764, 65535, 131071, 262143]
theorem L2_zoneBack.tab5 : rtab .any (opsOf Tryd.f32 5) = L2_zoneBack.T5 := by kernel_rfl
theorem L2_zoneBack.bits5 : waitsOk L2_zoneBack.T5.2 L2_zoneBack.B5 = true := by kernel_rfl
set_option maxHeartbeats 8000000 in
set_option maxRecDepth 100000 in
theorem L2_zoneBack.calls [EA] (k : Nat) (a0_0 : Int) (A0_1 : Option Addr) (c0_1 : Nat) (l0_1 : List (S42)) (r1 : Int) (r2 : List (S112)) (w : World) (hr0_1 : Kd.C k42 w A0_1 l0_1.length l0_1) (hc0_1 : l0_1.length ≤ c0_1) (h : L2_zoneBack.f k a0_0 l0_1 = some (r1, r2)) :
  Calls Tryd.prog 32 #[.agg #[.int .i64 a0_0, .slice A0_1 l0_1.length c0_1]] w fun e w' => ∃ v1_ : Value, e = .returned (.agg #[.int .i64 r1, v1_]) ∧ Kd.R k112 112 w' w.heap.size (fun _ => True) v1_ r2 ∧ Below w.heap.size w w' := by
 have hu37 := Tryd.underlying37
 have hu33 := Tryd.underlying33
 have hu112 := Tryd.underlying112
 have HR0_1 := am hr0_1
 have HC0_1 := am hc0_1
 clear hr0_1 hc0_1
 have HB := am (Below.refl w.heap.size w)
 have H : (L2_zoneBack.l0 k 0 a0_0 l0_1 a0_0 ([] : List (S112))) = some (r1, r2) := h
 clear h
 have H' := am H
 clear H
 go_enter Tryd.func32, Tryd.ntmps32
 go_wp2_with (first | ((with_reducible refine gate_dst (N := 1) rfl ?_); refine box_event ?hg (N := 1) ?hd (cs := #[.int .i64 a0_0, .slice A0_1 l0_1.length c0_1]) (t := 37) ?hr ?_; (case hd => rfl); (case hg => rfl); (case hr => first | (go_simp; done) | (go_simp; rfl)); intro gb111 hg w2 hbox hb; have n0_ := am (below_step pw hb); have n1_ := am (hbox); have n2_ := am (sz (w := w) hg pw); have n3_ := am (sz (w := w) hg pw); clear HB; revert n0_ n1_ n2_ n3_; intro HB BK111 GW111 GE111; clear hb hbox hg) | ((with_reducible refine gate_dst (N := 2) rfl ?_); refine box_event ?hg (N := 2) ?hd (cs := #[.int .i64 0, .slice none 0 0]) (t := 33) ?hr ?_; (case hd => rfl); (case hg => rfl); (case hr => first | (go_simp; done) | (go_simp; rfl)); intro gb112 hg w3 hbox hb; have n0_ := bb BK111 hb; have n1_ := am (below_step pw hb); have n2_ := am (hbox); have n3_ := am (sz (w := w) hg pw); have n4_ := am (sz (w := w) hg pw); have n5_ := am (nl BK111 hg); have n6_ := am ((nl BK111 hg).symm); clear BK111 HB; revert n0_ n1_ n2_ n3_ n4_ n5_ n6_; intro BK111 HB BK112 GW112 GE112 NB111_112 NB112_111; clear hb hbox hg; have hnb4 := NB111_112.out; have hnc4 := NB112_111.out; have hcz5_0 : w3.cell? ⟨gb111, 0, none⟩ = some (.int .i64 a0_0) := bc BK111 0; have hcz5_1 : w3.cell? ⟨gb111, 1, none⟩ = some (.slice A0_1 l0_1.length c0_1) := bc BK111 1; have hfz5_0 := blk_frozen BK111.out 0; have hfz5_1 := blk_frozen BK111.out 1) | ((with_reducible refine gate_dst (N := 3) rfl ?_); refine box_event ?hg (N := 3) ?hd (cs := #[.int .i64 0, .slice none 0 0]) (t := 33) ?hr ?_; (case hd => rfl); (case hg => rfl); (case hr => first | (go_simp; done) | (go_simp; rfl)); intro gb113 hg w6 hbox hb; have n0_ := bb BK111 hb; have n1_ := bb BK112 hb; have n2_ := am (below_step pw hb); have n3_ := am (hbox); have n4_ := am (sz (w := w) hg pw); have n5_ := am (sz (w := w) hg pw); have n6_ := am (nl BK111 hg); have n7_ := am ((nl BK111 hg).symm); have n8_ := am (nl BK112 hg); have n9_ := am ((nl BK112 hg).symm); clear BK111 BK112 HB; revert n0_ n1_ n2_ n3_ n4_ n5_ n6_ n7_ n8_ n9_; intro BK111 BK112 HB BK113 GW113 GE113 NB111_113 NB113_111 NB112_113 NB113_112; clear hb hbox hg; have hnb7 := NB113_111.out; have hnc7 := NB111_113.out; have hnb8 := NB113_112.out; have hnc8 := NB112_113.out; have hcz9_0 : w6.cell? ⟨gb113, 0, none⟩ = some (.int .i64 0) := bc BK113 0; have hcz9_1 : w6.cell? ⟨gb113, 1, none⟩ = some (.slice none 0 0) := bc BK113 1; have hfz9_0 := blk_frozen BK113.out 0; have hfz9_1 := blk_frozen BK113.out 1))
 go_loopg [4] k (fun kq v4 w' => ∃ (x4_1 : Int) (x114001_1 : List (S112)) (u114001 : Value), v4 = .int .i64 x4_1 ∧ Aside0 (L2_zoneBack.l0 kq x4_1 a0_0 l0_1 a0_0 x114001_1 = some (r1, r2)) ∧ Aside0 (kq ≤ k) ∧ Aside0 (Kd.R k112 112 w' w.heap.size (fun _ => True) u114001 x114001_1) ∧ Aside0 (w'.heap[gb111]? = some (.cells #[.int .i64 a0_0, (.slice A0_1 l0_1.length c0_1)] 37 (0, 0))) ∧ Aside0 (w'.heap[gb112]? = some (.cells #[.int .i64 0, (.slice none 0 0)] 33 (0, 0))) ∧ Aside0 (w'.heap[gb113]? = some (.cells #[.int .i64 a0_0, u114001] 33 (0, 0))) ∧ Aside0 (Below w.heap.size w w'))
 case atStart => exact ⟨(0), (([] : List (S112))), (.slice none 0 0), pr, H', ⟨Nat.le_refl _⟩, ⟨by first | exact Kd.R_nil _ _ _ _ _ | exact Kd.N_nil _ _ _ _ _ | exact Kd.V_nil _ _ _ _ _ | exact Kd.Q_nil _ _ _ _ _ | exact Kd.S_nil _ _ _ _ _⟩, ⟨by (with_reducible repeat (first | refine blk_drewN ?_ _ | refine blk_drew ?_ | refine blk_alloc ?_ _)); refine blk_far ?_ NB111_113.out _; (with_reducible repeat (first | refine blk_drewN ?_ _ | refine blk_drew ?_ | refine blk_alloc ?_ _)); refine blk_far ?_ NB111_113.out _; (with_reducible repeat (first | refine blk_drewN ?_ _ | refine blk_drew ?_ | refine blk_alloc ?_ _)); exact BK111.out⟩, ⟨by (with_reducible repeat (first | refine blk_drewN ?_ _ | refine blk_drew ?_ | refine blk_alloc ?_ _)); refine blk_far ?_ NB112_113.out _; (with_reducible repeat (first | refine blk_drewN ?_ _ | refine blk_drew ?_ | refine blk_alloc ?_ _)); refine blk_far ?_ NB112_113.out _; (with_reducible repeat (first | refine blk_drewN ?_ _ | refine blk_drew ?_ | refine blk_alloc ?_ _)); exact BK112.out⟩, ⟨by (with_reducible repeat (first | refine blk_drewN ?_ _ | refine blk_drew ?_ | refine blk_alloc ?_ _)); refine blk_put (cs := #[.int .i64 a0_0, .slice none 0 0]) ?_ 1 _ rfl; (with_reducible repeat (first | refine blk_drewN ?_ _ | refine blk_drew ?_ | refine blk_alloc ?_ _)); refine blk_put (cs := #[.int .i64 0, .slice none 0 0]) ?_ 0 _ rfl; (with_reducible repeat (first | refine blk_drewN ?_ _ | refine blk_drew ?_ | refine blk_alloc ?_ _)); exact BK113.out⟩, ⟨pw⟩⟩
 case round =>
  clear H'
  (try clear p2)
  (try clear c3)
  (try clear c4)
  (try clear c7)
  (try clear c8)
  (try clear hcz5_0)
  (try clear hcz5_1)
  (try clear hcz9_0)
  (try clear hcz9_1)
  (try clear hfz5_0)
  (try clear hfz5_1)
  (try clear hfz9_0)
  (try clear hfz9_1)
  obtain ⟨x4_1, x114001_1, u114001, rfl, HA, HK1, HO_114001, BK111, BK112, BK113, HB⟩ := hrel
  cases gk with
  | zero => exact absurd HA.out (by simp [L2_zoneBack.l0])
  | succ k1 =>
   have H := HA.out; clear HA; simp only [L2_zoneBack.l0] at H; by_cases c10 : x4_1 < (l0_1.length : Int)
   ·rw [if_pos c10] at H
    have c10b0 : decide (x4_1 < (l0_1.length : Int)) = true := decide_eq_true c10; clear c10; by_cases c11 : 0 ≤ x4_1
    ·rw [if_pos c11] at H
     have c11b0 : decide (0 ≤ x4_1) = true := decide_eq_true c11; clear c11; by_cases c12 : x114001_1.length < 8796093022208
     ·rw [if_pos c12] at H
      have LMc12 := am c12; clear c12; obtain ⟨y116, hy116⟩ : ∃ y_ : List (S112), y_ = (x114001_1 ++ [(⟨(rd_T42 l0_1 x4_1).f0, (rd_T42 l0_1 x4_1).f1⟩ : S112)]) := ⟨_, rfl⟩
      replace H : (L2_zoneBack.l0 k1 (wrap64 (x4_1 + 1)) a0_0 l0_1 a0_0 y116) = some (r1, r2) := by first | (rw [hy116]; with_reducible exact H) | (have H2_ := (Option.bind_some _ _).symm.trans H; rw [hy116]; with_reducible exact H2_) | (have H2_ := (Option.bind_some _ _).symm.trans H; with_reducible exact H2_) | with_reducible exact H | (rw [hy116]; exact H) | exact H
      have Ny116 := am hy116; clear hy116; have H' := am H; clear H; have hnb13 := NB111_112.out; have hnc13 := NB112_111.out; have hnb14 := NB111_113.out; have hnc14 := NB113_111.out; have hcz15_0 : wr.cell? ⟨gb111, 0, none⟩ = some (.int .i64 a0_0) := bc BK111 0; have hcz15_1 : wr.cell? ⟨gb111, 1, none⟩ = some (.slice A0_1 l0_1.length c0_1) := bc BK111 1; have hfz15_0 := blk_frozen BK111.out 0; have hfz15_1 := blk_frozen BK111.out 1
      try go_wp2
      have n0_ := am (Kd.R_drew HO_114001.out); have n1_ := am (blk_drew BK111.out); have n2_ := am (blk_drew BK112.out); have n3_ := am (blk_drew BK113.out); have n4_ := am (below_drew1 HB.out); clear HO_114001 BK111 BK112 BK113 HB; revert n0_ n1_ n2_ n3_ n4_; intro HO_114001 BK111 BK112 BK113 HB; have p114 : 0 ≤ (x4_1 : Int) := od; have q114 : x4_1 < (l0_1.length : Int) := od; obtain ⟨ad114, e114, hx114_0, hx114_1⟩ := at_T42 HR0_1.out x4_1 p114 q114; have hw114_1 := hx114_1; have hw114_0 := hx114_0; cases e114; replace hx114_0 := (HB.out.cell (World.block_lt_of_cell? w _ hx114_0)).trans hx114_0; replace hx114_1 := (HB.out.cell (World.block_lt_of_cell? w _ hx114_1)).trans hx114_1; replace p114 := eq_true p114; replace q114 := eq_true q114; have p115 : 0 ≤ (x4_1 : Int) := od; have q115 : x4_1 < (l0_1.length : Int) := od; obtain ⟨ad115, e115, hx115_0, hx115_1⟩ := at_T42 HR0_1.out x4_1 p115 q115; have hw115_1 := hx115_1; have hw115_0 := hx115_0; obtain rfl : ad114 = ad115 := (by injection e115); replace hx115_0 := (HB.out.cell (World.block_lt_of_cell? w _ hx115_0)).trans hx115_0; replace hx115_1 := (HB.out.cell (World.block_lt_of_cell? w _ hx115_1)).trans hx115_1; replace p115 := eq_true p115; replace q115 := eq_true q115; refine start_ (n := 19) (S := fun w' => w'.cell? ⟨gb113, 0, none⟩ = some (.int .i64 a0_0) ∧ w'.cell? ⟨gb113, 1, none⟩ = some (u114001) ∧ w'.cell? ⟨gb111, 0, none⟩ = some (.int .i64 a0_0) ∧ w'.cell? ⟨gb111, 1, none⟩ = some (.slice (some ad114) l0_1.length c0_1) ∧ w'.cell? (ad114.add ((x4_1).toNat * 2)) = some (.bool ((rd_T42 l0_1 x4_1).f0)) ∧ w'.cell? ⟨(ad114.add ((x4_1).toNat * 2)).block, (ad114.add ((x4_1).toNat * 2)).off + 1, none⟩ = some (.int .i64 ((rd_T42 l0_1 x4_1).f1)) ∧ w'.cell? (ad114.add ((x4_1).toNat * 2)) = some (.bool ((rd_T42 l0_1 x4_1).f0)) ∧ w'.cell? ⟨(ad114.add ((x4_1).toNat * 2)).block, (ad114.add ((x4_1).toNat * 2)).off + 1, none⟩ = some (.int .i64 ((rd_T42 l0_1 x4_1).f1))) (ds := [18]) (bm 0 19) kk rfl rfl ⟨bc BK113 0, bc BK113 1, bc BK111 0, bc BK111 1, ((HB.out.cell (World.block_lt_of_cell? w _ hw114_0)).trans hw114_0), ((HB.out.cell (World.block_lt_of_cell? w _ hw114_1)).trans hw114_1), ((HB.out.cell (World.block_lt_of_cell? w _ hw115_0)).trans hw115_0), ((HB.out.cell (World.block_lt_of_cell? w _ hw115_1)).trans hw115_1)⟩ (fun hHeld => ?_); refine with_tabW L2_zoneBack.tab5 L2_zoneBack.bits5 (fun HT_ HW_ => ?_); generalize wr.drew = w16 at HO_114001 BK111 BK112 BK113 HB hx114_0 hx114_1 hx115_0 hx115_1 hHeld ⊢; refine pure_ (i := 0) (N := some 15) (v := ?_) (a' := ?_) (bm 1 19) rfl rfl (any_of HT_.out kk) (fun _ _ _ h => h) (Or.inl ⟨by rfl, ?_⟩) ?_ ?_; rotate_left; ·intro w'; go_simp; with_reducible rfl
      rotate_left; ·simp only [sp]; rfl
      refine pure_ (i := 2) (N := some 17) (v := ?_) (a' := ?_) #[true, false, true, false, false, false, false, false, false, false, false, false, false, false, false, false, false, false, false] rfl rfl (any_of HT_.out kk) (fun _ _ _ h => h) (Or.inl ⟨by rfl, ?_⟩) ?_ ?_; rotate_left; ·intro w'; go_simp; with_reducible rfl
      rotate_left; ·simp only [sp]; rfl
      refine pure_ (i := 4) (N := some 19) (v := ?_) (a' := ?_) #[true, false, true, false, true, false, false, false, false, false, false, false, false, false, false, false, false, false, false] rfl rfl (any_of HT_.out kk) (fun _ _ _ h => h) (Or.inl ⟨by rfl, ?_⟩) ?_ ?_; rotate_left; ·intro w'; go_simp; with_reducible rfl
      rotate_left; ·simp only [sp]; rfl
      refine pure_ (i := 8) (N := some 23) (v := ?_) (a' := ?_) #[true, false, true, false, true, false, false, false, true, false, false, false, false, false, false, false, false, false, false] rfl rfl (any_of HT_.out kk) (fun _ _ _ h => h) (Or.inl ⟨by rfl, ?_⟩) ?_ ?_; rotate_left; ·intro w'; go_simp; with_reducible rfl
      rotate_left; ·simp only [sp]; rfl
      refine pure_ (i := 10) (N := some 25) (v := ?_) (a' := ?_) #[true, false, true, false, true, false, false, false, true, false, true, false, false, false, false, false, false, false, false] rfl rfl (any_of HT_.out kk) (fun _ _ _ h => h) (Or.inl ⟨by rfl, ?_⟩) ?_ ?_; rotate_left; ·intro w'; go_simp; with_reducible rfl
      rotate_left; ·simp only [sp]; rfl
      refine take_ (i := 1) (N := some 16) (v := ?_) (a' := ?_) #[true, true, true, false, true, false, false, false, true, false, true, false, false, false, false, false, false, false, false] rfl rfl (take_ofW HT_.out HW_.out kk) (fun _ _ _ h => h) (Or.inl ⟨by rfl, ?_⟩) hHeld ?_ ?_; rotate_left; ·rintro w' ⟨s0, s1, s2, s3, s4, s5, s6, s7⟩; go_simp; with_reducible rfl
      rotate_left; ·simp only [sp]; rfl
      refine take_ (i := 3) (N := some 18) (v := ?_) (a' := ?_) #[true, true, true, true, true, false, false, false, true, false, true, false, false, false, false, false, false, false, false] rfl rfl (take_ofW HT_.out HW_.out kk) (fun _ _ _ h => h) (Or.inl ⟨by rfl, ?_⟩) hHeld ?_ ?_; rotate_left; ·rintro w' ⟨s0, s1, s2, s3, s4, s5, s6, s7⟩; go_simp; with_reducible rfl
      rotate_left; ·simp only [sp]; rfl
      refine pure_ (i := 5) (N := some 20) (v := ?_) (a' := ?_) #[true, true, true, true, true, true, false, false, true, false, true, false, false, false, false, false, false, false, false] rfl rfl (any_of HT_.out kk) (fun _ _ _ h => h) (Or.inl ⟨by rfl, ?_⟩) ?_ ?_; rotate_left; ·intro w'; go_simp; with_reducible rfl
      rotate_left; ·simp only [sp]; rfl
      refine pure_ (i := 6) (N := some 21) (v := ?_) (a' := ?_) #[true, true, true, true, true, true, true, false, true, false, true, false, false, false, false, false, false, false, false] rfl rfl (any_of HT_.out kk) (fun _ _ _ h => h) (Or.inl ⟨by rfl, ?_⟩) ?_ ?_; rotate_left; ·intro w'; go_simp; with_reducible rfl
      rotate_left; ·simp only [sp]; rfl
      refine take_ (i := 7) (N := some 22) (v := ?_) (a' := ?_) #[true, true, true, true, true, true, true, true, true, false, true, false, false, false, false, false, false, false, false] rfl rfl (take_ofW HT_.out HW_.out kk) (fun _ _ _ h => h) (Or.inl ⟨by rfl, ?_⟩) hHeld ?_ ?_; rotate_left; ·rintro w' ⟨s0, s1, s2, s3, s4, s5, s6, s7⟩; go_simp; with_reducible rfl
      rotate_left; ·simp only [sp]; rfl
      refine take_ (i := 9) (N := some 24) (v := ?_) (a' := ?_) (bm 11 19) rfl rfl (take_ofW HT_.out HW_.out kk) (fun _ _ _ h => h) (Or.inl ⟨by rfl, ?_⟩) hHeld ?_ ?_; rotate_left; ·rintro w' ⟨s0, s1, s2, s3, s4, s5, s6, s7⟩; go_simp; with_reducible rfl
      rotate_left; ·simp only [sp]; rfl
      refine pure_ (i := 11) (N := some 26) (v := ?_) (a' := ?_) (bm 12 19) rfl rfl (any_of HT_.out kk) (fun _ _ _ h => h) (Or.inl ⟨by rfl, ?_⟩) ?_ ?_; rotate_left; ·intro w'; go_simp; with_reducible rfl
      rotate_left; ·simp only [sp]; rfl
      refine pure_ (i := 12) (N := some 27) (v := ?_) (a' := ?_) (bm 13 19) rfl rfl (any_of HT_.out kk) (fun _ _ _ h => h) (Or.inl ⟨by rfl, ?_⟩) ?_ ?_; rotate_left; ·intro w'; go_simp; with_reducible rfl
      rotate_left; ·simp only [sp]; rfl
      refine take_ (i := 13) (N := some 28) (v := ?_) (a' := ?_) (bm 14 19) rfl rfl (take_ofW HT_.out HW_.out kk) (fun _ _ _ h => h) (Or.inl ⟨by rfl, ?_⟩) hHeld ?_ ?_; rotate_left; ·rintro w' ⟨s0, s1, s2, s3, s4, s5, s6, s7⟩; go_simp; with_reducible rfl
      rotate_left; ·simp only [sp]; rfl
      refine pure_ (i := 14) (N := some 29) (v := ?_) (a' := ?_) (bm 15 19) rfl rfl (any_of HT_.out kk) (fun _ _ _ h => h) (Or.inl ⟨by rfl, ?_⟩) ?_ ?_; rotate_left; ·intro w'; go_simp; with_reducible rfl
      rotate_left; ·simp only [sp]; rfl
      refine one_ (i := 15) (N := some 30) (bm 16 19) rfl rfl (one_of HT_.out kk) (by decide) (fun K hK => ?_); refine value_ (w1 := ?_) (v := ?_) (by rfl) rfl ?_ ?_; rotate_left 2
      ·go_simp
       constructor
       ·rfl
       rfl
      refine hK.out _ _ ⟨(blk_cell (blk_alloc BK113.out _) 0).trans rfl, (blk_cell (blk_alloc BK113.out _) 1).trans rfl, (blk_cell (blk_alloc BK111.out _) 0).trans rfl, (blk_cell (blk_alloc BK111.out _) 1).trans rfl, (World.cell?_alloc_lt _ _ _ (World.block_lt_of_cell? _ _ (((HB.out.cell (World.block_lt_of_cell? w _ hw114_0)).trans hw114_0)))).trans (((HB.out.cell (World.block_lt_of_cell? w _ hw114_0)).trans hw114_0)), (World.cell?_alloc_lt _ _ _ (World.block_lt_of_cell? _ _ (((HB.out.cell (World.block_lt_of_cell? w _ hw114_1)).trans hw114_1)))).trans (((HB.out.cell (World.block_lt_of_cell? w _ hw114_1)).trans hw114_1)), (World.cell?_alloc_lt _ _ _ (World.block_lt_of_cell? _ _ (((HB.out.cell (World.block_lt_of_cell? w _ hw115_0)).trans hw115_0)))).trans (((HB.out.cell (World.block_lt_of_cell? w _ hw115_0)).trans hw115_0)), (World.cell?_alloc_lt _ _ _ (World.block_lt_of_cell? _ _ (((HB.out.cell (World.block_lt_of_cell? w _ hw115_1)).trans hw115_1)))).trans (((HB.out.cell (World.block_lt_of_cell? w _ hw115_1)).trans hw115_1))⟩ (fun hHeld => ?_); clear hK K; refine norm_ (a' := ?_) ?_ ?_; rotate_left
      ·show Act.put _ (some 30) _ = _
       simp only [sp]; rfl
      refine one_ (i := 16) (N := some 31) (bm 17 19) rfl rfl (one_of HT_.out kk) (by decide) (fun K hK => ?_); refine Kd.R_append_step k112 (w0 := w) w.heap.size (by rfl) (.tmp 16) (.tmp 30) 31 112 (.agg #[(.bool false), (.int .i64 0)]) 16 rfl Tryd.underlying31 info112 rfl (by decide) (by omega) u114001 x114001_1 (⟨(rd_T42 l0_1 x4_1).f0, (rd_T42 l0_1 x4_1).f1⟩ : S112) [.bool ((rd_T42 l0_1 x4_1).f0), .int .i64 ((rd_T42 l0_1 x4_1).f1)] (fun _ => True) (fun _ => False) rfl rfl ?aP (fun _ hk => hk.elim) ?aF ?aO ?aB ?aS ?aL ?_
      (case aP => exact k112_mkM _ _ _ (⟨(rd_T42 l0_1 x4_1).f0, (rd_T42 l0_1 x4_1).f1⟩ : S112))
      (case aB => exact pw)
      (case aF => exact (fun _ _ => trivial))
      (case aO => exact (rk HO_114001))
      (case aS => exact (below_size pw))
      (case aL => have := LMc12.out; omega); intro v117 w17 ho hb hg hat; rw [← Ny116.out] at ho; have n0_ := am (blk_grown (g := gb111) (o := .cells #[.int .i64 a0_0, .slice (some ad114) l0_1.length c0_1] 37 (0, 0)) pk hg (Kd.R_ne HO_114001.out BK111.out (by decide))); have n1_ := am (blk_grown (g := gb112) (o := .cells #[.int .i64 0, .slice none 0 0] 33 (0, 0)) pk hg (Kd.R_ne HO_114001.out BK112.out (by decide))); have n2_ := am (blk_grown (g := gb113) (o := .cells #[.int .i64 a0_0, u114001] 33 (0, 0)) pk hg (Kd.R_ne HO_114001.out BK113.out (by decide))); have n3_ := am (hb); have n4_ := am (ho); clear BK111 BK112 BK113 HB HO_114001; revert n0_ n1_ n2_ n3_ n4_; intro BK111 BK112 BK113 HB HO118; clear ho hb hg hat; obtain ⟨Ao18, co18, eo18⟩ := Kd.R_slice HO118.out; (first | subst eo18 | (injection eo18 with f1_ f2_ f3_; have f4_ := f1_.symm; have f5_ := f3_.symm; clear f1_ f2_ f3_; subst f4_; subst f5_)); refine hK.out _ _ ⟨bc BK113 0, bc BK113 1, bc BK111 0, bc BK111 1, ((HB.out.cell (World.block_lt_of_cell? w _ hw114_0)).trans hw114_0), ((HB.out.cell (World.block_lt_of_cell? w _ hw114_1)).trans hw114_1), ((HB.out.cell (World.block_lt_of_cell? w _ hw115_0)).trans hw115_0), ((HB.out.cell (World.block_lt_of_cell? w _ hw115_1)).trans hw115_1)⟩ (fun hHeld => ?_); clear hK K; refine norm_ (a' := ?_) ?_ ?_; rotate_left
      ·show Act.put _ (some 31) _ = _
       simp only [sp]; rfl
      refine pure_ (i := 17) (N := some 32) (v := ?_) (a' := ?_) (bm 18 19) rfl rfl (any_of HT_.out kk) (fun _ _ _ h => h) (Or.inl ⟨by rfl, ?_⟩) ?_ ?_; rotate_left; ·intro w'; go_simp; with_reducible rfl
      rotate_left; ·simp only [sp]; rfl
      refine last_ (i := 18) (N := none) (bm 19 19) rfl rfl (one_of HT_.out kk) (by decide) (fun K hK => ?_); have hs19 : w17.cell? ⟨gb113, 1, none⟩ = some (u114001) := bc BK113 1; have hfs19 := blk_frozen BK113.out 1; have hns19_0 := NB111_113.out; have hns19_1 := NB112_113.out; have hms19_0 := NB113_111.out; have hms19_1 := NB113_112.out; refine skip_ (w1 := ?_) (by rfl) rfl ?_ ?_; rotate_left
      ·go_simp
       rfl
      refine hK.out _ _ ?_; clear hK K; refine done_ (done_of HT_.out kk) ?_; (try simp only [errW_none, errW_some])
      try go_wp2
      go_roundg k1
      case measure => have := HK1.out; omega
      case rel => exact ⟨(wrap64 (x4_1 + 1)), (y116), (.slice Ao18 y116.length co18), pr, H', ⟨by have := HK1.out; omega⟩, ⟨by (with_reducible repeat (first | apply Kd.R_alloc | apply Kd.R_drewN | apply Kd.R_drew)); exact Kd.R_mono (Kd.R_far (p := ⟨gb113, 1, none⟩) (Kd.R_types HO118.out BK113.out (by decide)) (fun _ hk => hk.2) (.slice Ao18 y116.length co18)) (fun _ hk => trivial)⟩, ⟨by (with_reducible repeat (first | refine blk_drewN ?_ _ | refine blk_drew ?_ | refine blk_alloc ?_ _)); refine blk_far ?_ NB111_113.out _; (with_reducible repeat (first | refine blk_drewN ?_ _ | refine blk_drew ?_ | refine blk_alloc ?_ _)); exact BK111.out⟩, ⟨by (with_reducible repeat (first | refine blk_drewN ?_ _ | refine blk_drew ?_ | refine blk_alloc ?_ _)); refine blk_far ?_ NB112_113.out _; (with_reducible repeat (first | refine blk_drewN ?_ _ | refine blk_drew ?_ | refine blk_alloc ?_ _)); exact BK112.out⟩, ⟨by (with_reducible repeat (first | refine blk_drewN ?_ _ | refine blk_drew ?_ | refine blk_alloc ?_ _)); refine blk_put (cs := #[.int .i64 a0_0, u114001]) ?_ 1 _ rfl; (with_reducible repeat (first | refine blk_drewN ?_ _ | refine blk_drew ?_ | refine blk_alloc ?_ _)); exact BK113.out⟩, ⟨pw⟩⟩
     rw [if_neg c12] at H; exact absurd H (by simp)
    rw [if_neg c11] at H; exact absurd H (by simp)
   rw [if_neg c10] at H; have c10b0 : decide (x4_1 < (l0_1.length : Int)) = false := decide_eq_false c10; clear c10; simp only [Option.some.injEq, Prod.mk.injEq] at H; obtain ⟨rfl, rfl⟩ := H; have hnb20 := NB111_112.out; have hnc20 := NB112_111.out; have hnb21 := NB111_113.out; have hnc21 := NB113_111.out; have hcz22_0 : wr.cell? ⟨gb111, 0, none⟩ = some (.int .i64 a0_0) := bc BK111 0; have hcz22_1 : wr.cell? ⟨gb111, 1, none⟩ = some (.slice A0_1 l0_1.length c0_1) := bc BK111 1; have hfz22_0 := blk_frozen BK111.out 0; have hfz22_1 := blk_frozen BK111.out 1; have hnb23 := NB113_112.out; have hnc23 := NB112_113.out; have hcz24_0 : wr.cell? ⟨gb113, 0, none⟩ = some (.int .i64 a0_0) := bc BK113 0; have hcz24_1 : wr.cell? ⟨gb113, 1, none⟩ = some (u114001) := bc BK113 1; have hfz24_0 := blk_frozen BK113.out 0; have hfz24_1 := blk_frozen BK113.out 1; have hcz25_0 : wr.cell? ⟨gb112, 0, none⟩ = some (.int .i64 0) := bc BK112 0; have hcz25_1 : wr.cell? ⟨gb112, 1, none⟩ = some (.slice none 0 0) := bc BK112 1; have hfz25_0 := blk_frozen BK112.out 0; have hfz25_1 := blk_frozen BK112.out 1; obtain ⟨Ao26, co26, eo26⟩ := Kd.R_slice HO_114001.out; subst eo26; go_wp2; refine bodyPost_ret (results_cell_row rfl _ _ gb112 33 #[.int .i64 a0_0, .slice Ao26 x114001_1.length co26] (0, 0) _ rfl (by (with_reducible repeat (first | refine blk_drewN ?_ _ | refine blk_drew ?_ | refine blk_alloc ?_ _)); refine blk_put (cs := #[.int .i64 a0_0, .slice none 0 0]) ?_ 1 _ rfl; (with_reducible repeat (first | refine blk_drewN ?_ _ | refine blk_drew ?_ | refine blk_alloc ?_ _)); refine blk_put (cs := #[.int .i64 0, .slice none 0 0]) ?_ 0 _ rfl; (with_reducible repeat (first | refine blk_drewN ?_ _ | refine blk_drew ?_ | refine blk_alloc ?_ _)); exact BK112.out) Tryd.underlying33 rfl kk) rfl ?_; exact ⟨_, pe, by (with_reducible repeat (first | apply Kd.R_alloc | apply Kd.R_drewN | apply Kd.R_drew)); exact Kd.R_mono (Kd.R_far (p := ⟨gb112, 1, none⟩) (Kd.R_far (p := ⟨gb112, 0, none⟩) (Kd.R_types HO_114001.out BK112.out (by decide)) (fun _ hk => hk.2) (.int .i64 a0_0)) (fun _ hk => hk.2) (.slice Ao26 x114001_1.length co26)) (fun _ hk => trivial), pw⟩

/-! ### R2_SameCells: function 83 -/
def R2_SameCells.l0 : Nat → List (S112) → List (S112) → Int → Option (Bool)
 | 0, _, _, _ => none
 | k + 1, x0, x1, x5 => if x5 < (x0.length : Int) then (if 0 ≤ x5 then (if x5 < (x1.length : Int) then (if (!(((rd_T112 x0 x5).f0) == ((rd_T112 x1 x5).f0)) || (!(((rd_T112 x0 x5).f1) == ((rd_T112 x1 x5).f1)))) = true then (some false) else (R2_SameCells.l0 k x0 x1 (wrap64 (x5 + 1)))) else (none)) else (none)) else (some true)
def R2_SameCells.f (k : Nat) (l0 : List (S112)) (l1 : List (S112)) : Option (Bool) := if (l0.length : Int) = (l1.length : Int) then (R2_SameCells.l0 k l0 l1 0) else (some false)
theorem R2_SameCells.mono_l : ∀ k, (∀ y0 y1 y2, LeO (R2_SameCells.l0 k y0 y1 y2) (R2_SameCells.l0 (k + 1) y0 y1 y2))
 | 0 => fun _ _ _ r h => by simp [R2_SameCells.l0] at h
 | k + 1 => by
  have ih0 := R2_SameCells.mono_l k
  intro y0 y1 y2
  unfold R2_SameCells.l0
  repeat' first
  | (with_reducible exact ih0 _ _ _)
  | (with_reducible exact LeO.refl _)
  | (with_reducible exact LeO.none _)
  | (with_reducible refine LeO.ite ?_ ?_)
  | (with_reducible refine LeO.bind ?_ (fun _ => ?_))
  | exact ih0 _ _ _
  | exact LeO.none _
  | refine LeO.ite ?_ ?_
  | refine LeO.bind ?_ (fun _ => ?_)
theorem R2_SameCells.mono : ∀ a0 a1 k, LeO (R2_SameCells.f k a0 a1) (R2_SameCells.f (k + 1) a0 a1) := by
 intro a0 a1 k
 have ih0 := R2_SameCells.mono_l k
 unfold R2_SameCells.f
 repeat' first
   | (with_reducible exact ih0 _ _ _)
   | (with_reducible exact LeO.refl _)
   | (with_reducible exact LeO.none _)
   | (with_reducible refine LeO.ite ?_ ?_)
   | (with_reducible refine LeO.bind ?_ (fun _ => ?_))
   | exact ih0 _ _ _
   | exact LeO.none _
   | refine LeO.ite ?_ ?_
   | refine LeO.bind ?_ (fun _ => ?_)
set_option maxHeartbeats 8000000 in
set_option maxRecDepth 100000 in
theorem R2_SameCells.calls [EA] (k : Nat) (A0 : Option Addr) (c0 : Nat) (l0 : List (S112)) (A1 : Option Addr) (c1 : Nat) (l1 : List (S112)) (r : Bool) (w : World) (hr0 : Kd.C k112 w A0 l0.length l0) (hc0 : l0.length ≤ c0) (hr1 : Kd.C k112 w A1 l1.length l1) (hc1 : l1.length ≤ c1) (h : R2_SameCells.f k l0 l1 = some r) :
  Calls Tryd.prog 83 #[.slice A0 l0.length c0, .slice A1 l1.length c1] w fun e w' => e = .returned (.bool r) ∧ Drawn0 w w' := by
 have hu112 := Tryd.underlying112
 have HR0 := am hr0
 have HC0 := am hc0
 clear hr0 hc0
 have HR1 := am hr1
 have HC1 := am hc1
 clear hr1 hc1
 have H : (if (l0.length : Int) = (l1.length : Int) then (R2_SameCells.l0 k l0 l1 0) else (some false)) = some r := h
 clear h
 by_cases c3 : (l0.length : Int) = (l1.length : Int)
 ·rw [if_pos c3] at H
  have c3b0 : ((l0.length : Int) == (l1.length : Int)) = true := beq_iff_eq.mpr c3
  have c3b1 : ((l0.length : Int) != (l1.length : Int)) = false := bne_eq_false_iff_eq.mpr c3
  have c3b2 : (l0.length == l1.length) = true := by first | simpa using c3 | (simp at c3 ⊢; omega)
  clear c3
  have H' := am H
  clear H
  go_enter Tryd.func83, Tryd.ntmps83
  go_wp2
  repeat (go_quiet (fail); try go_wp2)
  go_loopg [5] k (fun kq v5 w' => ∃ (x5_1 : Int), v5 = .int .i64 x5_1 ∧ Aside0 (R2_SameCells.l0 kq l0 l1 x5_1 = some r) ∧ Aside0 (kq ≤ k) ∧ Drawn0 w w')
  case atStart => exact ⟨(0), pr, H', ⟨Nat.le_refl _⟩, by repeat (first | exact Drawn0.refl _ | apply Drawn0.step)⟩
  case round =>
   clear H'; (try clear c1); (try clear p2); (try clear c3); (try clear c3b0); (try clear c3b1); (try clear c3b2); obtain ⟨x5_1, rfl, HA, HK1, ⟨m1, rfl⟩⟩ := hrel; cases gk with
   | zero => exact absurd HA.out (by simp [R2_SameCells.l0])
   | succ k1 =>
    have H := HA.out; clear HA; simp only [R2_SameCells.l0] at H; by_cases c4 : x5_1 < (l0.length : Int)
    ·rw [if_pos c4] at H
     have c4b0 : decide (x5_1 < (l0.length : Int)) = true := decide_eq_true c4; clear c4; by_cases c5 : 0 ≤ x5_1
     ·rw [if_pos c5] at H
      have c5b0 : decide (0 ≤ x5_1) = true := decide_eq_true c5; clear c5; by_cases c6 : x5_1 < (l1.length : Int)
      ·rw [if_pos c6] at H
       have c6b0 : decide (x5_1 < (l1.length : Int)) = true := decide_eq_true c6; clear c6; by_cases c7 : (!(((rd_T112 l0 x5_1).f0) == ((rd_T112 l1 x5_1).f0)) || (!(((rd_T112 l0 x5_1).f1) == ((rd_T112 l1 x5_1).f1)))) = true
       ·rw [if_pos c7] at H
        have c7b0 : (!(((rd_T112 l0 x5_1).f0) == ((rd_T112 l1 x5_1).f0)) || (!(((rd_T112 l0 x5_1).f1) == ((rd_T112 l1 x5_1).f1)))) = true := c7; clear c7; obtain rfl := Option.some.inj H; have p119 : 0 ≤ (x5_1 : Int) := od; have q119 : x5_1 < (l0.length : Int) := od; obtain ⟨ad119, e119, hx119_0, hx119_1⟩ := at_T112 HR0.out x5_1 p119 q119; cases e119; replace p119 := eq_true p119; replace q119 := eq_true q119; have p120 : 0 ≤ (x5_1 : Int) := od; have q120 : x5_1 < (l1.length : Int) := od; obtain ⟨ad120, e120, hx120_0, hx120_1⟩ := at_T112 HR1.out x5_1 p120 q120; cases e120; replace p120 := eq_true p120; replace q120 := eq_true q120; go_wp2
        repeat (go_quiet (fail); try go_wp2)
        go_ret; exact ⟨by first | rfl | (simp; done) | (simp [*]; done), by repeat (first | exact Drawn0.refl _ | apply Drawn0.step)⟩
       rw [if_neg c7] at H
       have c7b0 : (!(((rd_T112 l0 x5_1).f0) == ((rd_T112 l1 x5_1).f0)) || (!(((rd_T112 l0 x5_1).f1) == ((rd_T112 l1 x5_1).f1)))) = false := by simpa using c7
       clear c7; have H' := am H; clear H; have p119 : 0 ≤ (x5_1 : Int) := od; have q119 : x5_1 < (l0.length : Int) := od; obtain ⟨ad119, e119, hx119_0, hx119_1⟩ := at_T112 HR0.out x5_1 p119 q119; cases e119; replace p119 := eq_true p119; replace q119 := eq_true q119; have p120 : 0 ≤ (x5_1 : Int) := od; have q120 : x5_1 < (l1.length : Int) := od; obtain ⟨ad120, e120, hx120_0, hx120_1⟩ := at_T112 HR1.out x5_1 p120 q120; cases e120; replace p120 := eq_true p120; replace q120 := eq_true q120; go_wp2
       repeat (go_quiet (fail); try go_wp2)
       go_roundg k1
       case measure => have := HK1.out; omega
       case rel => exact ⟨(wrap64 (x5_1 + 1)), pr, H', ⟨by have := HK1.out; omega⟩, by repeat (first | exact Drawn0.refl _ | apply Drawn0.step)⟩
      rw [if_neg c6] at H; exact absurd H (by simp)
     rw [if_neg c5] at H; exact absurd H (by simp)
    rw [if_neg c4] at H; have c4b0 : decide (x5_1 < (l0.length : Int)) = false := decide_eq_false c4; clear c4; obtain rfl := Option.some.inj H; go_wp2
    repeat (go_quiet (fail); try go_wp2)
    go_ret; exact ⟨by first | rfl | (simp; done) | (simp [*]; done), by repeat (first | exact Drawn0.refl _ | apply Drawn0.step)⟩
 rw [if_neg c3] at H
 have c3b0 : ((l0.length : Int) == (l1.length : Int)) = false := beq_eq_false_iff_ne.mpr c3
 have c3b1 : ((l0.length : Int) != (l1.length : Int)) = true := bne_iff_ne.mpr c3
 have c3b2 : (l0.length == l1.length) = false := by first | simpa using c3 | (simp at c3 ⊢; omega)
 obtain rfl := Option.some.inj H
 go_enter Tryd.func83, Tryd.ntmps83
 go_wp2
 repeat (go_quiet (fail); try go_wp2)
 go_ret
 exact ⟨by first | rfl | (simp; done) | (simp [*]; done), by repeat (first | exact Drawn0.refl _ | apply Drawn0.step)⟩

end Go.Proofs.YtjpboodkmhikpaaDoor.Z
