import Derived.Test.YtcalcnfppnbooaaDoorOxSp
import Derived.Test.YtcalcnfppnbooaaDoorOxEb
import Derived.Test.YtcalcnfppnbooaaDoorOxFldO
import Derived.Test.YtcalcnfppnbooaaDoorOxQc
import Derived.Test.YtcalcnfppnbooaaDoorOxQw
import Derived.Test.YtcalcnfppnbooaaDoorOxZ0
import Derived.Test.YtcalcnfppnbooaaDoorOxZ3
-- Written by wip/xprint.py (the session's program over the kit's print).
namespace Go.Proofs.YtcalcnfppnbooaaDoor.Z
open Go.RowKit Go.Proofs.YtcalcnfppnbooaaDoorW.PrintWords Go.Proofs.YtcalcnfppnbooaaDoorW.PrintLast Go.Proofs.YtcalcnfppnbooaaDoorW.PrintMore Go.Proofs.Rcg Go.Proofs.Rco
attribute [local go_sem] Go.Proofs.Rcg.fld_oct1 Go.Proofs.Rcg.fld_roct1 max2_int min2_int max_two min_two max_three min_three max_four min_four   -- for this text's walks alone
set_option linter.unusedVariables false
set_option linter.unusedSimpArgs false

/-! ### octagon_Close: function 43 -/
def octagon_Close.f (a0_0 : Int) (l0_1 : List (S146)) : Option (Int × (List (S146)) × Bool × Option Int) := (octagon_Valid.f a0_0 l0_1).bind fun t622 => (if t622.isNone = true then ((octagon_Octagon_close.f a0_0 l0_1).bind fun bt624 => (some (bt624.1, bt624.2.1, bt624.2.2, none))) else (some (0, ([] : List (S146)), false, some (t622.getD 0))))
set_option maxHeartbeats 8000000 in
set_option maxRecDepth 100000 in
theorem octagon_Close.calls [EA] (a0_0 : Int) (A0_1 : Option Addr) (c0_1 : Nat) (l0_1 : List (S146)) (r1 : Int) (r2 : List (S146)) (r3 : Bool) (r4 : Option Int) (w : World) (hr0_1 : Kd.C k146 w A0_1 l0_1.length l0_1) (hc0_1 : l0_1.length ≤ c0_1) (h : octagon_Close.f a0_0 l0_1 = some (r1, r2, r3, r4)) (h2_ : ErrAt 2 1 w) (h3_ : ErrAt 3 0 w) (h7_ : ErrAt 7 3 w) :
  Calls Tryd.prog 43 #[.agg #[.int .i64 a0_0, .slice A0_1 l0_1.length c0_1]] w fun e w' => ∃ v1_ : Value, e = .returned (.tuple #[.agg #[.int .i64 r1, v1_], .bool r3, errW r4]) ∧ Kd.R k146 146 w' w.heap.size (fun _ => True) v1_ r2 ∧ Below w.heap.size w w' := by
 have hE2 := am h2_
 clear h2_
 have hE3 := am h3_
 clear h3_
 have hE7 := am h7_
 clear h7_
 have hu74 := Tryd.underlying74
 have hu32 := Tryd.underlying32
 have HR0_1 := am hr0_1
 have HC0_1 := am hc0_1
 clear hr0_1 hc0_1
 have HB := am (Below.refl w.heap.size w)
 have H : ((octagon_Valid.f a0_0 l0_1).bind fun t622 => (if t622.isNone = true then ((octagon_Octagon_close.f a0_0 l0_1).bind fun bt624 => (some (bt624.1, bt624.2.1, bt624.2.2, none))) else (some (0, ([] : List (S146)), false, some (t622.getD 0))))) = some (r1, r2, r3, r4) := h
 clear h
 replace H := Option.bind_eq_some_iff.mp H
 obtain ⟨t622, A20, H⟩ := H
 replace H : (if t622.isNone = true then ((octagon_Octagon_close.f a0_0 l0_1).bind fun bt624 => (some (bt624.1, bt624.2.1, bt624.2.2, none))) else (some (0, ([] : List (S146)), false, some (t622.getD 0)))) = some (r1, r2, r3, r4) := H
 have A2 := am A20
 clear A20
 rcases t622 with _ | q623
 ·have H1 : ((octagon_Octagon_close.f a0_0 l0_1).bind fun bt624 => (some (bt624.1, bt624.2.1, bt624.2.2, none))) = some (r1, r2, r3, r4) := by rw [if_pos (show (none : Option Int).isNone = true by rfl)] at H; exact H
  clear H
  have H := H1
  clear H1
  try simp only [errW_none, errW_some]
  replace H := Option.bind_eq_some_iff.mp H
  obtain ⟨⟨t624, t625, t628⟩, A30, H⟩ := H
  replace H : (some (t624, t625, t628, none)) = some (r1, r2, r3, r4) := H
  have A3 := am A30
  clear A30
  simp only [Option.some.injEq, Prod.mk.injEq] at H
  obtain ⟨rfl, rfl, rfl, rfl⟩ := H
  go_enter Tryd.func43, Tryd.ntmps43
  go_wp2_with (first | ((with_reducible refine gate_dst (N := 1) rfl ?_); refine box_event ?hg (N := 1) ?hd (cs := #[.int .i64 a0_0, .slice A0_1 l0_1.length c0_1]) (t := 74) ?hr ?_; (case hd => rfl); (case hg => rfl); (case hr => first | (go_simp; done) | (go_simp; rfl)); intro gb620 hg w4 hbox hb; have n0_ := am (below_step pw hb); have n1_ := am (hbox); have n2_ := am (sz (w := w) hg pw); have n3_ := am (sz (w := w) hg pw); clear HB; revert n0_ n1_ n2_ n3_; intro HB BK620 GW620 GE620; clear hb hbox hg) | ((with_reducible refine gate_dst (N := 2) rfl ?_); refine box_event ?hg (N := 2) ?hd (cs := #[.int .i64 0, .slice none 0 0]) (t := 74) ?hr ?_; (case hd => rfl); (case hg => rfl); (case hr => first | (go_simp; done) | (go_simp; rfl)); intro gb621 hg w5 hbox hb; have n0_ := bb BK620 hb; have n1_ := am (below_step pw hb); have n2_ := am (hbox); have n3_ := am (sz (w := w) hg pw); have n4_ := am (sz (w := w) hg pw); have n5_ := am (nl BK620 hg); have n6_ := am ((nl BK620 hg).symm); clear BK620 HB; revert n0_ n1_ n2_ n3_ n4_ n5_ n6_; intro BK620 HB BK621 GW621 GE621 NB620_621 NB621_620; clear hb hbox hg; have hnb6 := NB620_621.out; have hnc6 := NB621_620.out; have hcz7_0 : w5.cell? ⟨gb620, 0, none⟩ = some (.int .i64 a0_0) := bc BK620 0; have hcz7_1 : w5.cell? ⟨gb620, 1, none⟩ = some (.slice A0_1 l0_1.length c0_1) := bc BK620 1; have hfz7_0 := blk_frozen BK620.out 0; have hfz7_1 := blk_frozen BK620.out 1) | ((with_reducible refine gate_callee (f := 46) rfl ?_); refine goesL_ (some 9) rfl rfl Tryd.func46 kk rfl #[.agg #[.int .i64 a0_0, .slice A0_1 l0_1.length c0_1]] rfl (by (try simp only [List.map_toArray, List.map_cons, List.map_nil]); first | done | rfl | (simp only [List.length_drop, List.length_take]; rfl)) ?_; (with_reducible refine (octagon_Valid.calls a0_0 _ _ l0_1 none _ ?side1 ?side2 A2.out (am (ErrAt.below hE2.out pw)).out (am (ErrAt.below hE3.out pw)).out (am (ErrAt.below hE7.out pw)).out).mono ?_); (case side1 => repeat (first | exact (Kd.C_below HR0_1.out HB.out) | (with_reducible refine Kd.C_alloc ?_ _) | (with_reducible refine Kd.C_drewN ?_ _) | (with_reducible refine Kd.C_drew ?_))); (case side2 => exact HC0_1.out); rintro e w8 ⟨rfl, hb⟩; refine ⟨_, rfl, ?_⟩; have n0_ := bb BK620 hb; have n1_ := bb BK621 hb; have n2_ := am (below_step pw hb); clear BK620 BK621 HB; revert n0_ n1_ n2_; intro BK620 BK621 HB; (try clear hb); (try clear hb2); (try clear hk); (try clear hi); (try simp only [errW_none, errW_some]); have hcz9_0 : w8.cell? ⟨gb620, 0, none⟩ = some (.int .i64 a0_0) := bc BK620 0; have hcz9_1 : w8.cell? ⟨gb620, 1, none⟩ = some (.slice A0_1 l0_1.length c0_1) := bc BK620 1; have hfz9_0 := blk_frozen BK620.out 0; have hfz9_1 := blk_frozen BK620.out 1) | ((with_reducible refine gate_callee (f := 105) rfl ?_); refine goesL_ (some 16) rfl rfl Tryd.func105 kk rfl #[.agg #[.int .i64 a0_0, .slice A0_1 l0_1.length c0_1]] rfl (by (try simp only [List.map_toArray, List.map_cons, List.map_nil]); first | done | rfl | (simp only [List.length_drop, List.length_take]; rfl)) ?_; (with_reducible refine (octagon_Octagon_close.calls a0_0 _ _ l0_1 t624 t625 t628 _ ?side1 ?side2 A3.out).mono ?_); (case side1 => repeat (first | exact (Kd.C_below HR0_1.out HB.out) | (with_reducible refine Kd.C_alloc ?_ _) | (with_reducible refine Kd.C_drewN ?_ _) | (with_reducible refine Kd.C_drew ?_))); (case side2 => exact HC0_1.out); rintro e w10 ⟨v626, rfl, ho0, hb⟩; refine ⟨_, rfl, ?_⟩; have n0_ := am (Kd.R_lower ho0 (below_size pw)); have n1_ := bb BK620 hb; have n2_ := bb BK621 hb; have n3_ := am (below_step pw hb); clear BK620 BK621 HB; revert n0_ n1_ n2_ n3_; intro HO627 BK620 BK621 HB; (try clear hb); (try clear hb2); (try clear hk); (try clear hi); (try clear ho0)) | ((with_reducible refine gate_dst (N := 6) rfl ?_); refine box_event ?hg (N := 6) ?hd (cs := #[.int .i64 0, .slice none 0 0]) (t := 74) ?hr ?_; (case hd => rfl); (case hg => rfl); (case hr => first | (go_simp; done) | (go_simp; rfl)); intro gb629 hg w11 hbox hb; have n0_ := am (Kd.R_below (rk HO627) hb); have n1_ := bb BK620 hb; have n2_ := bb BK621 hb; have n3_ := am (below_step pw hb); have n4_ := am (hbox); have n5_ := am (sz (w := w) hg pw); have n6_ := am (sz (w := w) hg pw); have n7_ := am (nl BK620 hg); have n8_ := am ((nl BK620 hg).symm); have n9_ := am (nl BK621 hg); have n10_ := am ((nl BK621 hg).symm); clear HO627 BK620 BK621 HB; revert n0_ n1_ n2_ n3_ n4_ n5_ n6_ n7_ n8_ n9_ n10_; intro HO627 BK620 BK621 HB BK629 GW629 GE629 NB620_629 NB629_620 NB621_629 NB629_621; clear hb hbox hg; have hnb12 := NB629_620.out; have hnc12 := NB620_629.out; have hnb13 := NB629_621.out; have hnc13 := NB621_629.out; have hcz14_0 : w11.cell? ⟨gb629, 0, none⟩ = some (.int .i64 0) := bc BK629 0; have hcz14_1 : w11.cell? ⟨gb629, 1, none⟩ = some (.slice none 0 0) := bc BK629 1; have hfz14_0 := blk_frozen BK629.out 0; have hfz14_1 := blk_frozen BK629.out 1; obtain ⟨Ao15, co15, eo15⟩ := Kd.R_slice HO627.out; subst eo15; have hcz16_0 : w11.cell? ⟨gb621, 0, none⟩ = some (.int .i64 0) := bc BK621 0; have hcz16_1 : w11.cell? ⟨gb621, 1, none⟩ = some (.slice none 0 0) := bc BK621 1; have hfz16_0 := blk_frozen BK621.out 0; have hfz16_1 := blk_frozen BK621.out 1))
  refine bodyPost_ret (results_ctt rfl _ _ gb621 74 #[.int .i64 t624, .slice Ao15 t625.length co15] (0, 0) _ rfl (by (with_reducible repeat (first | refine blk_drewN ?_ _ | refine blk_drew ?_ | refine blk_alloc ?_ _)); refine blk_put (cs := #[.int .i64 t624, .slice none 0 0]) ?_ 1 _ rfl; (with_reducible repeat (first | refine blk_drewN ?_ _ | refine blk_drew ?_ | refine blk_alloc ?_ _)); refine blk_put (cs := #[.int .i64 0, .slice none 0 0]) ?_ 0 _ rfl; (with_reducible repeat (first | refine blk_drewN ?_ _ | refine blk_drew ?_ | refine blk_alloc ?_ _)); refine blk_far ?_ NB621_629.out _; (with_reducible repeat (first | refine blk_drewN ?_ _ | refine blk_drew ?_ | refine blk_alloc ?_ _)); refine blk_far ?_ NB621_629.out _; (with_reducible repeat (first | refine blk_drewN ?_ _ | refine blk_drew ?_ | refine blk_alloc ?_ _)); exact BK621.out) Tryd.underlying74 rfl kk) rfl ?_
  exact ⟨_, pe, by (with_reducible repeat (first | apply Kd.R_alloc | apply Kd.R_drewN | apply Kd.R_drew)); exact Kd.R_mono (Kd.R_far (p := ⟨gb621, 1, none⟩) (Kd.R_far (p := ⟨gb621, 0, none⟩) (Kd.R_far (p := ⟨gb629, 1, none⟩) (Kd.R_far (p := ⟨gb629, 0, none⟩) (Kd.R_types (Kd.R_types HO627.out BK629.out (by decide)) BK621.out (by decide)) (fun _ hk => hk.1.2) (.int .i64 t624)) (fun _ hk => hk.1.2) (.slice Ao15 t625.length co15)) (fun _ hk => hk.2) (.int .i64 t624)) (fun _ hk => hk.2) (.slice Ao15 t625.length co15)) (fun _ hk => trivial), pw⟩
 have H1 : (some (0, ([] : List (S146)), false, some q623)) = some (r1, r2, r3, r4) := by rw [if_neg (show ¬ (some q623).isNone = true by simp)] at H; exact H
 clear H
 have H := H1
 clear H1
 try simp only [errW_none, errW_some]
 simp only [Option.some.injEq, Prod.mk.injEq] at H
 obtain ⟨rfl, rfl, rfl, rfl⟩ := H
 go_enter Tryd.func43, Tryd.ntmps43
 go_wp2_with (first | ((with_reducible refine gate_dst (N := 1) rfl ?_); refine box_event ?hg (N := 1) ?hd (cs := #[.int .i64 a0_0, .slice A0_1 l0_1.length c0_1]) (t := 74) ?hr ?_; (case hd => rfl); (case hg => rfl); (case hr => first | (go_simp; done) | (go_simp; rfl)); intro gb620 hg w17 hbox hb; have n0_ := am (below_step pw hb); have n1_ := am (hbox); have n2_ := am (sz (w := w) hg pw); have n3_ := am (sz (w := w) hg pw); clear HB; revert n0_ n1_ n2_ n3_; intro HB BK620 GW620 GE620; clear hb hbox hg) | ((with_reducible refine gate_dst (N := 2) rfl ?_); refine box_event ?hg (N := 2) ?hd (cs := #[.int .i64 0, .slice none 0 0]) (t := 74) ?hr ?_; (case hd => rfl); (case hg => rfl); (case hr => first | (go_simp; done) | (go_simp; rfl)); intro gb621 hg w18 hbox hb; have n0_ := bb BK620 hb; have n1_ := am (below_step pw hb); have n2_ := am (hbox); have n3_ := am (sz (w := w) hg pw); have n4_ := am (sz (w := w) hg pw); have n5_ := am (nl BK620 hg); have n6_ := am ((nl BK620 hg).symm); clear BK620 HB; revert n0_ n1_ n2_ n3_ n4_ n5_ n6_; intro BK620 HB BK621 GW621 GE621 NB620_621 NB621_620; clear hb hbox hg; have hnb19 := NB620_621.out; have hnc19 := NB621_620.out; have hcz20_0 : w18.cell? ⟨gb620, 0, none⟩ = some (.int .i64 a0_0) := bc BK620 0; have hcz20_1 : w18.cell? ⟨gb620, 1, none⟩ = some (.slice A0_1 l0_1.length c0_1) := bc BK620 1; have hfz20_0 := blk_frozen BK620.out 0; have hfz20_1 := blk_frozen BK620.out 1) | ((with_reducible refine gate_callee (f := 46) rfl ?_); refine goesL_ (some 9) rfl rfl Tryd.func46 kk rfl #[.agg #[.int .i64 a0_0, .slice A0_1 l0_1.length c0_1]] rfl (by (try simp only [List.map_toArray, List.map_cons, List.map_nil]); first | done | rfl | (simp only [List.length_drop, List.length_take]; rfl)) ?_; (with_reducible refine (octagon_Valid.calls a0_0 _ _ l0_1 (some q623) _ ?side1 ?side2 A2.out (am (ErrAt.below hE2.out pw)).out (am (ErrAt.below hE3.out pw)).out (am (ErrAt.below hE7.out pw)).out).mono ?_); (case side1 => repeat (first | exact (Kd.C_below HR0_1.out HB.out) | (with_reducible refine Kd.C_alloc ?_ _) | (with_reducible refine Kd.C_drewN ?_ _) | (with_reducible refine Kd.C_drew ?_))); (case side2 => exact HC0_1.out); rintro e w21 ⟨rfl, hb⟩; refine ⟨_, rfl, ?_⟩; have n0_ := bb BK620 hb; have n1_ := bb BK621 hb; have n2_ := am (below_step pw hb); clear BK620 BK621 HB; revert n0_ n1_ n2_; intro BK620 BK621 HB; (try clear hb); (try clear hb2); (try clear hk); (try clear hi); (try simp only [errW_none, errW_some]); have hcz22_0 : w21.cell? ⟨gb621, 0, none⟩ = some (.int .i64 0) := bc BK621 0; have hcz22_1 : w21.cell? ⟨gb621, 1, none⟩ = some (.slice none 0 0) := bc BK621 1; have hfz22_0 := blk_frozen BK621.out 0; have hfz22_1 := blk_frozen BK621.out 1))
 refine bodyPost_ret (results_ctt rfl _ _ gb621 74 #[.int .i64 0, .slice none 0 0] (0, 0) _ rfl (by (with_reducible repeat (first | refine blk_drewN ?_ _ | refine blk_drew ?_ | refine blk_alloc ?_ _)); refine blk_put (cs := #[.int .i64 0, .slice none 0 0]) ?_ 1 _ rfl; (with_reducible repeat (first | refine blk_drewN ?_ _ | refine blk_drew ?_ | refine blk_alloc ?_ _)); refine blk_put (cs := #[.int .i64 0, .slice none 0 0]) ?_ 0 _ rfl; (with_reducible repeat (first | refine blk_drewN ?_ _ | refine blk_drew ?_ | refine blk_alloc ?_ _)); exact BK621.out) Tryd.underlying74 rfl kk) rfl ?_
 exact ⟨_, pe, by first | exact Kd.R_nil _ _ _ _ _ | exact Kd.N_nil _ _ _ _ _ | exact Kd.V_nil _ _ _ _ _ | exact Kd.Q_nil _ _ _ _ _ | exact Kd.S_nil _ _ _ _ _, pw⟩

/-! ### L2_octBack: function 113 -/
def L2_octBack.l0 : Nat → Int → Int → List (S146) → Int → List (S67) → Option (Int × (List (S67)))
 | 0, _, _, _, _, _ => none
 | k + 1, x4, x631000, x631001, x633000, x633001 => if x4 < (x631001.length : Int) then (if 0 ≤ x4 then (if x633001.length < 8796093022208 then (L2_octBack.l0 k (wrap64 (x4 + 1)) x631000 x631001 x633000 (x633001 ++ [(⟨(rd_T146 x631001 x4).f0, (rd_T146 x631001 x4).f1⟩ : S67)])) else (none)) else (none)) else (some (x633000, x633001))
def L2_octBack.f (k : Nat) (a0_0 : Int) (l0_1 : List (S146)) : Option (Int × (List (S67))) := L2_octBack.l0 k 0 a0_0 l0_1 a0_0 ([] : List (S67))
theorem L2_octBack.mono_l : ∀ k, (∀ y0 y1 y2 y3 y4, LeO (L2_octBack.l0 k y0 y1 y2 y3 y4) (L2_octBack.l0 (k + 1) y0 y1 y2 y3 y4))
 | 0 => fun _ _ _ _ _ r h => by simp [L2_octBack.l0] at h
 | k + 1 => by
  have ih0 := L2_octBack.mono_l k
  intro y0 y1 y2 y3 y4
  unfold L2_octBack.l0
  repeat' first
  | (with_reducible exact ih0 _ _ _ _ _)
  | (with_reducible exact LeO.refl _)
  | (with_reducible exact LeO.none _)
  | (with_reducible refine LeO.ite ?_ ?_)
  | (with_reducible refine LeO.bind ?_ (fun _ => ?_))
  | exact ih0 _ _ _ _ _
  | exact LeO.none _
  | refine LeO.ite ?_ ?_
  | refine LeO.bind ?_ (fun _ => ?_)
theorem L2_octBack.mono : ∀ a0 a1 k, LeO (L2_octBack.f k a0 a1) (L2_octBack.f (k + 1) a0 a1) := by
 intro a0 a1 k
 have ih0 := L2_octBack.mono_l k
 unfold L2_octBack.f
 repeat' first
   | (with_reducible exact ih0 _ _ _ _ _)
   | (with_reducible exact LeO.refl _)
   | (with_reducible exact LeO.none _)
   | (with_reducible refine LeO.ite ?_ ?_)
   | (with_reducible refine LeO.bind ?_ (fun _ => ?_))
   | exact ih0 _ _ _ _ _
   | exact LeO.none _
   | refine LeO.ite ?_ ?_
   | refine LeO.bind ?_ (fun _ => ?_)
def L2_octBack.T5 : Bool × List (List Nat × List Nat) := (true, [([], []), ([0], [0]), ([], []), ([2], [2]), ([], []), ([3, 4], [3, 4]), ([5], [5]), ([6], [6]), ([], []), ([8], [8]), ([], []), ([9, 10], [9, 10]), ([11], [11]), ([12], [12]), ([7, 13], [7, 13]), ([14], [14]), ([1, 15], [1, 15]), ([0, 1, 2, 3, 4, 5, 6, 7, 8, 9, 10, 11, 12, 13, 14, 15, 16], []), ([17, 16, 16, 0, 1, 2, 3, 4, 5, 6, 7, 8, 9, 10, 11, 12, 13, 14, 15, 16], [16, 17])])
def L2_octBack.B5 : List Nat := [0, 1, 0, 4, 0, 28, 60, 124, 0, 256, 0, 1792, 3840, 7936, 16380, 32764, 65535, 131071, 262143]
theorem L2_octBack.tab5 : rtab .any (opsOf Tryd.f113 5) = L2_octBack.T5 := by kernel_rfl
theorem L2_octBack.bits5 : waitsOk L2_octBack.T5.2 L2_octBack.B5 = true := by kernel_rfl
set_option maxHeartbeats 8000000 in
set_option maxRecDepth 100000 in
theorem L2_octBack.calls [EA] (k : Nat) (a0_0 : Int) (A0_1 : Option Addr) (c0_1 : Nat) (l0_1 : List (S146)) (r1 : Int) (r2 : List (S67)) (w : World) (hr0_1 : Kd.C k146 w A0_1 l0_1.length l0_1) (hc0_1 : l0_1.length ≤ c0_1) (h : L2_octBack.f k a0_0 l0_1 = some (r1, r2)) :
  Calls Tryd.prog 113 #[.agg #[.int .i64 a0_0, .slice A0_1 l0_1.length c0_1]] w fun e w' => ∃ v1_ : Value, e = .returned (.agg #[.int .i64 r1, v1_]) ∧ Kd.R k67 67 w' w.heap.size (fun _ => True) v1_ r2 ∧ Below w.heap.size w w' := by
 have hu74 := Tryd.underlying74
 have hu70 := Tryd.underlying70
 have hu67 := Tryd.underlying67
 have HR0_1 := am hr0_1
 have HC0_1 := am hc0_1
 clear hr0_1 hc0_1
 have HB := am (Below.refl w.heap.size w)
 have H : (L2_octBack.l0 k 0 a0_0 l0_1 a0_0 ([] : List (S67))) = some (r1, r2) := h
 clear h
 have H' := am H
 clear H
 go_enter Tryd.func113, Tryd.ntmps113
 go_wp2_with (first | ((with_reducible refine gate_dst (N := 1) rfl ?_); refine box_event ?hg (N := 1) ?hd (cs := #[.int .i64 a0_0, .slice A0_1 l0_1.length c0_1]) (t := 74) ?hr ?_; (case hd => rfl); (case hg => rfl); (case hr => first | (go_simp; done) | (go_simp; rfl)); intro gb630 hg w2 hbox hb; have n0_ := am (below_step pw hb); have n1_ := am (hbox); have n2_ := am (sz (w := w) hg pw); have n3_ := am (sz (w := w) hg pw); clear HB; revert n0_ n1_ n2_ n3_; intro HB BK630 GW630 GE630; clear hb hbox hg) | ((with_reducible refine gate_dst (N := 2) rfl ?_); refine box_event ?hg (N := 2) ?hd (cs := #[.int .i64 0, .slice none 0 0]) (t := 70) ?hr ?_; (case hd => rfl); (case hg => rfl); (case hr => first | (go_simp; done) | (go_simp; rfl)); intro gb631 hg w3 hbox hb; have n0_ := bb BK630 hb; have n1_ := am (below_step pw hb); have n2_ := am (hbox); have n3_ := am (sz (w := w) hg pw); have n4_ := am (sz (w := w) hg pw); have n5_ := am (nl BK630 hg); have n6_ := am ((nl BK630 hg).symm); clear BK630 HB; revert n0_ n1_ n2_ n3_ n4_ n5_ n6_; intro BK630 HB BK631 GW631 GE631 NB630_631 NB631_630; clear hb hbox hg; have hnb4 := NB630_631.out; have hnc4 := NB631_630.out; have hcz5_0 : w3.cell? ⟨gb630, 0, none⟩ = some (.int .i64 a0_0) := bc BK630 0; have hcz5_1 : w3.cell? ⟨gb630, 1, none⟩ = some (.slice A0_1 l0_1.length c0_1) := bc BK630 1; have hfz5_0 := blk_frozen BK630.out 0; have hfz5_1 := blk_frozen BK630.out 1) | ((with_reducible refine gate_dst (N := 3) rfl ?_); refine box_event ?hg (N := 3) ?hd (cs := #[.int .i64 0, .slice none 0 0]) (t := 70) ?hr ?_; (case hd => rfl); (case hg => rfl); (case hr => first | (go_simp; done) | (go_simp; rfl)); intro gb632 hg w6 hbox hb; have n0_ := bb BK630 hb; have n1_ := bb BK631 hb; have n2_ := am (below_step pw hb); have n3_ := am (hbox); have n4_ := am (sz (w := w) hg pw); have n5_ := am (sz (w := w) hg pw); have n6_ := am (nl BK630 hg); have n7_ := am ((nl BK630 hg).symm); have n8_ := am (nl BK631 hg); have n9_ := am ((nl BK631 hg).symm); clear BK630 BK631 HB; revert n0_ n1_ n2_ n3_ n4_ n5_ n6_ n7_ n8_ n9_; intro BK630 BK631 HB BK632 GW632 GE632 NB630_632 NB632_630 NB631_632 NB632_631; clear hb hbox hg; have hnb7 := NB632_630.out; have hnc7 := NB630_632.out; have hnb8 := NB632_631.out; have hnc8 := NB631_632.out; have hcz9_0 : w6.cell? ⟨gb632, 0, none⟩ = some (.int .i64 0) := bc BK632 0; have hcz9_1 : w6.cell? ⟨gb632, 1, none⟩ = some (.slice none 0 0) := bc BK632 1; have hfz9_0 := blk_frozen BK632.out 0; have hfz9_1 := blk_frozen BK632.out 1))
 go_loopg [4] k (fun kq v4 w' => ∃ (x4_1 : Int) (x633001_1 : List (S67)) (u633001 : Value), v4 = .int .i64 x4_1 ∧ Aside0 (L2_octBack.l0 kq x4_1 a0_0 l0_1 a0_0 x633001_1 = some (r1, r2)) ∧ Aside0 (kq ≤ k) ∧ Aside0 (Kd.R k67 67 w' w.heap.size (fun _ => True) u633001 x633001_1) ∧ Aside0 (w'.heap[gb630]? = some (.cells #[.int .i64 a0_0, (.slice A0_1 l0_1.length c0_1)] 74 (0, 0))) ∧ Aside0 (w'.heap[gb631]? = some (.cells #[.int .i64 0, (.slice none 0 0)] 70 (0, 0))) ∧ Aside0 (w'.heap[gb632]? = some (.cells #[.int .i64 a0_0, u633001] 70 (0, 0))) ∧ Aside0 (Below w.heap.size w w'))
 case atStart => exact ⟨(0), (([] : List (S67))), (.slice none 0 0), pr, H', ⟨Nat.le_refl _⟩, ⟨by first | exact Kd.R_nil _ _ _ _ _ | exact Kd.N_nil _ _ _ _ _ | exact Kd.V_nil _ _ _ _ _ | exact Kd.Q_nil _ _ _ _ _ | exact Kd.S_nil _ _ _ _ _⟩, ⟨by (with_reducible repeat (first | refine blk_drewN ?_ _ | refine blk_drew ?_ | refine blk_alloc ?_ _)); refine blk_far ?_ NB630_632.out _; (with_reducible repeat (first | refine blk_drewN ?_ _ | refine blk_drew ?_ | refine blk_alloc ?_ _)); refine blk_far ?_ NB630_632.out _; (with_reducible repeat (first | refine blk_drewN ?_ _ | refine blk_drew ?_ | refine blk_alloc ?_ _)); exact BK630.out⟩, ⟨by (with_reducible repeat (first | refine blk_drewN ?_ _ | refine blk_drew ?_ | refine blk_alloc ?_ _)); refine blk_far ?_ NB631_632.out _; (with_reducible repeat (first | refine blk_drewN ?_ _ | refine blk_drew ?_ | refine blk_alloc ?_ _)); refine blk_far ?_ NB631_632.out _; (with_reducible repeat (first | refine blk_drewN ?_ _ | refine blk_drew ?_ | refine blk_alloc ?_ _)); exact BK631.out⟩, ⟨by (with_reducible repeat (first | refine blk_drewN ?_ _ | refine blk_drew ?_ | refine blk_alloc ?_ _)); refine blk_put (cs := #[.int .i64 a0_0, .slice none 0 0]) ?_ 1 _ rfl; (with_reducible repeat (first | refine blk_drewN ?_ _ | refine blk_drew ?_ | refine blk_alloc ?_ _)); refine blk_put (cs := #[.int .i64 0, .slice none 0 0]) ?_ 0 _ rfl; (with_reducible repeat (first | refine blk_drewN ?_ _ | refine blk_drew ?_ | refine blk_alloc ?_ _)); exact BK632.out⟩, ⟨pw⟩⟩
 case round =>
  clear H'
  (try clear c1)
  (try clear p2)
  (try clear c4)
  (try clear c7)
  (try clear c8)
  (try clear hcz5_0)
  (try clear hcz5_1)
  (try clear hcz9_0)
  (try clear hcz9_1)
  (try clear hfz5_0)
  (try clear hfz5_1)
  (try clear hfz9_0)
  (try clear hfz9_1)
  obtain ⟨x4_1, x633001_1, u633001, rfl, HA, HK1, HO_633001, BK630, BK631, BK632, HB⟩ := hrel
  cases gk with
  | zero => exact absurd HA.out (by simp [L2_octBack.l0])
  | succ k1 =>
   have H := HA.out; clear HA; simp only [L2_octBack.l0] at H; by_cases c10 : x4_1 < (l0_1.length : Int)
   ·rw [if_pos c10] at H
    have c10b0 : decide (x4_1 < (l0_1.length : Int)) = true := decide_eq_true c10; clear c10; by_cases c11 : 0 ≤ x4_1
    ·rw [if_pos c11] at H
     have c11b0 : decide (0 ≤ x4_1) = true := decide_eq_true c11; clear c11; by_cases c12 : x633001_1.length < 8796093022208
     ·rw [if_pos c12] at H
      have LMc12 := am c12; clear c12; obtain ⟨y635, hy635⟩ : ∃ y_ : List (S67), y_ = (x633001_1 ++ [(⟨(rd_T146 l0_1 x4_1).f0, (rd_T146 l0_1 x4_1).f1⟩ : S67)]) := ⟨_, rfl⟩
      replace H : (L2_octBack.l0 k1 (wrap64 (x4_1 + 1)) a0_0 l0_1 a0_0 y635) = some (r1, r2) := by first | (rw [hy635]; with_reducible exact H) | (have H2_ := (Option.bind_some _ _).symm.trans H; rw [hy635]; with_reducible exact H2_) | (have H2_ := (Option.bind_some _ _).symm.trans H; with_reducible exact H2_) | with_reducible exact H | (rw [hy635]; exact H) | exact H
      have Ny635 := am hy635; clear hy635; have H' := am H; clear H; have hnb13 := NB630_631.out; have hnc13 := NB631_630.out; have hnb14 := NB630_632.out; have hnc14 := NB632_630.out; have hcz15_0 : wr.cell? ⟨gb630, 0, none⟩ = some (.int .i64 a0_0) := bc BK630 0; have hcz15_1 : wr.cell? ⟨gb630, 1, none⟩ = some (.slice A0_1 l0_1.length c0_1) := bc BK630 1; have hfz15_0 := blk_frozen BK630.out 0; have hfz15_1 := blk_frozen BK630.out 1
      try go_wp2
      have n0_ := am (Kd.R_drew HO_633001.out); have n1_ := am (blk_drew BK630.out); have n2_ := am (blk_drew BK631.out); have n3_ := am (blk_drew BK632.out); have n4_ := am (below_drew1 HB.out); clear HO_633001 BK630 BK631 BK632 HB; revert n0_ n1_ n2_ n3_ n4_; intro HO_633001 BK630 BK631 BK632 HB; have p633 : 0 ≤ (x4_1 : Int) := od; have q633 : x4_1 < (l0_1.length : Int) := od; obtain ⟨ad633, e633, hx633_0, hx633_1⟩ := at_T146 HR0_1.out x4_1 p633 q633; have hw633_1 := hx633_1; have hw633_0 := hx633_0; cases e633; replace hx633_0 := (HB.out.cell (World.block_lt_of_cell? w _ hx633_0)).trans hx633_0; replace hx633_1 := (HB.out.cell (World.block_lt_of_cell? w _ hx633_1)).trans hx633_1; replace p633 := eq_true p633; replace q633 := eq_true q633; have p634 : 0 ≤ (x4_1 : Int) := od; have q634 : x4_1 < (l0_1.length : Int) := od; obtain ⟨ad634, e634, hx634_0, hx634_1⟩ := at_T146 HR0_1.out x4_1 p634 q634; have hw634_1 := hx634_1; have hw634_0 := hx634_0; obtain rfl : ad633 = ad634 := (by injection e634); replace hx634_0 := (HB.out.cell (World.block_lt_of_cell? w _ hx634_0)).trans hx634_0; replace hx634_1 := (HB.out.cell (World.block_lt_of_cell? w _ hx634_1)).trans hx634_1; replace p634 := eq_true p634; replace q634 := eq_true q634; refine start_ (n := 19) (S := fun w' => w'.cell? ⟨gb632, 0, none⟩ = some (.int .i64 a0_0) ∧ w'.cell? ⟨gb632, 1, none⟩ = some (u633001) ∧ w'.cell? ⟨gb630, 0, none⟩ = some (.int .i64 a0_0) ∧ w'.cell? ⟨gb630, 1, none⟩ = some (.slice (some ad633) l0_1.length c0_1) ∧ w'.cell? (ad633.add ((x4_1).toNat * 2)) = some (.bool ((rd_T146 l0_1 x4_1).f0)) ∧ w'.cell? ⟨(ad633.add ((x4_1).toNat * 2)).block, (ad633.add ((x4_1).toNat * 2)).off + 1, none⟩ = some (.int .i64 ((rd_T146 l0_1 x4_1).f1)) ∧ w'.cell? (ad633.add ((x4_1).toNat * 2)) = some (.bool ((rd_T146 l0_1 x4_1).f0)) ∧ w'.cell? ⟨(ad633.add ((x4_1).toNat * 2)).block, (ad633.add ((x4_1).toNat * 2)).off + 1, none⟩ = some (.int .i64 ((rd_T146 l0_1 x4_1).f1))) (ds := [18]) (bm 0 19) kk rfl rfl ⟨bc BK632 0, bc BK632 1, bc BK630 0, bc BK630 1, ((HB.out.cell (World.block_lt_of_cell? w _ hw633_0)).trans hw633_0), ((HB.out.cell (World.block_lt_of_cell? w _ hw633_1)).trans hw633_1), ((HB.out.cell (World.block_lt_of_cell? w _ hw634_0)).trans hw634_0), ((HB.out.cell (World.block_lt_of_cell? w _ hw634_1)).trans hw634_1)⟩ (fun hHeld => ?_); refine with_tabW L2_octBack.tab5 L2_octBack.bits5 (fun HT_ HW_ => ?_); generalize wr.drew = w16 at HO_633001 BK630 BK631 BK632 HB hx633_0 hx633_1 hx634_0 hx634_1 hHeld ⊢; refine pure_ (i := 0) (N := some 15) (v := ?_) (a' := ?_) (bm 1 19) rfl rfl (any_of HT_.out kk) (fun _ _ _ h => h) (Or.inl ⟨by rfl, ?_⟩) ?_ ?_; rotate_left; ·intro w'; go_simp; with_reducible rfl
      rotate_left; ·simp only [sp]; rfl
      refine pure_ (i := 2) (N := some 17) (v := ?_) (a' := ?_) #[true, false, true, false, false, false, false, false, false, false, false, false, false, false, false, false, false, false, false] rfl rfl (any_of HT_.out kk) (fun _ _ _ h => h) (Or.inl ⟨by rfl, ?_⟩) ?_ ?_; rotate_left; ·intro w'; go_simp; with_reducible rfl
      rotate_left; ·simp only [sp]; rfl
      refine pure_ (i := 4) (N := some 19) (v := ?_) (a' := ?_) #[true, false, true, false, true, false, false, false, false, false, false, false, false, false, false, false, false, false, false] rfl rfl (any_of HT_.out kk) (fun _ _ _ h => h) (Or.inl ⟨by rfl, ?_⟩) ?_ ?_; rotate_left; ·intro w'; go_simp; with_reducible rfl
      rotate_left; ·simp only [sp]; rfl
      refine pure_ (i := 8) (N := some 23) (v := ?_) (a' := ?_) #[true, false, true, false, true, false, false, false, true, false, false, false, false, false, false, false, false, false, false] rfl rfl (any_of HT_.out kk) (fun _ _ _ h => h) (Or.inl ⟨by rfl, ?_⟩) ?_ ?_; rotate_left; ·intro w'; go_simp; with_reducible rfl
      rotate_left; ·simp only [sp]; rfl
      refine pure_ (i := 10) (N := some 25) (v := ?_) (a' := ?_) #[true, false, true, false, true, false, false, false, true, false, true, false, false, false, false, false, false, false, false] rfl rfl (any_of HT_.out kk) (fun _ _ _ h => h) (Or.inl ⟨by rfl, ?_⟩) ?_ ?_; rotate_left; ·intro w'; go_simp; with_reducible rfl
      rotate_left; ·simp only [sp]; rfl
      refine take_ (i := 1) (N := some 16) (v := ?_) (a' := ?_) #[true, true, true, false, true, false, false, false, true, false, true, false, false, false, false, false, false, false, false] rfl rfl (take_ofW HT_.out HW_.out kk) (fun _ _ _ h => h) (Or.inl ⟨by rfl, ?_⟩) hHeld ?_ ?_; rotate_left; ·rintro w' ⟨s0, s1, s2, s3, s4, s5, s6, s7⟩; go_simp; with_reducible rfl
      rotate_left; ·simp only [sp]; rfl
      refine take_ (i := 3) (N := some 18) (v := ?_) (a' := ?_) #[true, true, true, true, true, false, false, false, true, false, true, false, false, false, false, false, false, false, false] rfl rfl (take_ofW HT_.out HW_.out kk) (fun _ _ _ h => h) (Or.inl ⟨by rfl, ?_⟩) hHeld ?_ ?_; rotate_left; ·rintro w' ⟨s0, s1, s2, s3, s4, s5, s6, s7⟩; go_simp; with_reducible rfl
      rotate_left; ·simp only [sp]; rfl
      refine pure_ (i := 5) (N := some 20) (v := ?_) (a' := ?_) #[true, true, true, true, true, true, false, false, true, false, true, false, false, false, false, false, false, false, false] rfl rfl (any_of HT_.out kk) (fun _ _ _ h => h) (Or.inl ⟨by rfl, ?_⟩) ?_ ?_; rotate_left; ·intro w'; go_simp; with_reducible rfl
      rotate_left; ·simp only [sp]; rfl
      refine pure_ (i := 6) (N := some 21) (v := ?_) (a' := ?_) #[true, true, true, true, true, true, true, false, true, false, true, false, false, false, false, false, false, false, false] rfl rfl (any_of HT_.out kk) (fun _ _ _ h => h) (Or.inl ⟨by rfl, ?_⟩) ?_ ?_; rotate_left; ·intro w'; go_simp; with_reducible rfl
      rotate_left; ·simp only [sp]; rfl
      refine take_ (i := 7) (N := some 22) (v := ?_) (a' := ?_) #[true, true, true, true, true, true, true, true, true, false, true, false, false, false, false, false, false, false, false] rfl rfl (take_ofW HT_.out HW_.out kk) (fun _ _ _ h => h) (Or.inl ⟨by rfl, ?_⟩) hHeld ?_ ?_; rotate_left; ·rintro w' ⟨s0, s1, s2, s3, s4, s5, s6, s7⟩; go_simp; with_reducible rfl
      rotate_left; ·simp only [sp]; rfl
      refine take_ (i := 9) (N := some 24) (v := ?_) (a' := ?_) (bm 11 19) rfl rfl (take_ofW HT_.out HW_.out kk) (fun _ _ _ h => h) (Or.inl ⟨by rfl, ?_⟩) hHeld ?_ ?_; rotate_left; ·rintro w' ⟨s0, s1, s2, s3, s4, s5, s6, s7⟩; go_simp; with_reducible rfl
      rotate_left; ·simp only [sp]; rfl
      refine pure_ (i := 11) (N := some 26) (v := ?_) (a' := ?_) (bm 12 19) rfl rfl (any_of HT_.out kk) (fun _ _ _ h => h) (Or.inl ⟨by rfl, ?_⟩) ?_ ?_; rotate_left; ·intro w'; go_simp; with_reducible rfl
      rotate_left; ·simp only [sp]; rfl
      refine pure_ (i := 12) (N := some 27) (v := ?_) (a' := ?_) (bm 13 19) rfl rfl (any_of HT_.out kk) (fun _ _ _ h => h) (Or.inl ⟨by rfl, ?_⟩) ?_ ?_; rotate_left; ·intro w'; go_simp; with_reducible rfl
      rotate_left; ·simp only [sp]; rfl
      refine take_ (i := 13) (N := some 28) (v := ?_) (a' := ?_) (bm 14 19) rfl rfl (take_ofW HT_.out HW_.out kk) (fun _ _ _ h => h) (Or.inl ⟨by rfl, ?_⟩) hHeld ?_ ?_; rotate_left; ·rintro w' ⟨s0, s1, s2, s3, s4, s5, s6, s7⟩; go_simp; with_reducible rfl
      rotate_left; ·simp only [sp]; rfl
      refine pure_ (i := 14) (N := some 29) (v := ?_) (a' := ?_) (bm 15 19) rfl rfl (any_of HT_.out kk) (fun _ _ _ h => h) (Or.inl ⟨by rfl, ?_⟩) ?_ ?_; rotate_left; ·intro w'; go_simp; with_reducible rfl
      rotate_left; ·simp only [sp]; rfl
      refine one_ (i := 15) (N := some 30) (bm 16 19) rfl rfl (one_of HT_.out kk) (by decide) (fun K hK => ?_); refine value_ (w1 := ?_) (v := ?_) (by rfl) rfl ?_ ?_; rotate_left 2
      ·go_simp
       constructor
       ·rfl
       rfl
      refine hK.out _ _ ⟨(blk_cell (blk_alloc BK632.out _) 0).trans rfl, (blk_cell (blk_alloc BK632.out _) 1).trans rfl, (blk_cell (blk_alloc BK630.out _) 0).trans rfl, (blk_cell (blk_alloc BK630.out _) 1).trans rfl, (World.cell?_alloc_lt _ _ _ (World.block_lt_of_cell? _ _ (((HB.out.cell (World.block_lt_of_cell? w _ hw633_0)).trans hw633_0)))).trans (((HB.out.cell (World.block_lt_of_cell? w _ hw633_0)).trans hw633_0)), (World.cell?_alloc_lt _ _ _ (World.block_lt_of_cell? _ _ (((HB.out.cell (World.block_lt_of_cell? w _ hw633_1)).trans hw633_1)))).trans (((HB.out.cell (World.block_lt_of_cell? w _ hw633_1)).trans hw633_1)), (World.cell?_alloc_lt _ _ _ (World.block_lt_of_cell? _ _ (((HB.out.cell (World.block_lt_of_cell? w _ hw634_0)).trans hw634_0)))).trans (((HB.out.cell (World.block_lt_of_cell? w _ hw634_0)).trans hw634_0)), (World.cell?_alloc_lt _ _ _ (World.block_lt_of_cell? _ _ (((HB.out.cell (World.block_lt_of_cell? w _ hw634_1)).trans hw634_1)))).trans (((HB.out.cell (World.block_lt_of_cell? w _ hw634_1)).trans hw634_1))⟩ (fun hHeld => ?_); clear hK K; refine norm_ (a' := ?_) ?_ ?_; rotate_left
      ·show Act.put _ (some 30) _ = _
       simp only [sp]; rfl
      refine one_ (i := 16) (N := some 31) (bm 17 19) rfl rfl (one_of HT_.out kk) (by decide) (fun K hK => ?_); refine Kd.R_append_step k67 (w0 := w) w.heap.size (by rfl) (.tmp 16) (.tmp 30) 22 67 (.agg #[(.bool false), (.int .i64 0)]) 16 rfl Tryd.underlying22 info67 rfl (by decide) (by omega) u633001 x633001_1 (⟨(rd_T146 l0_1 x4_1).f0, (rd_T146 l0_1 x4_1).f1⟩ : S67) [.bool ((rd_T146 l0_1 x4_1).f0), .int .i64 ((rd_T146 l0_1 x4_1).f1)] (fun _ => True) (fun _ => False) rfl rfl ?aP (fun _ hk => hk.elim) ?aF ?aO ?aB ?aS ?aL ?_
      (case aP => exact k67_mkM _ _ _ (⟨(rd_T146 l0_1 x4_1).f0, (rd_T146 l0_1 x4_1).f1⟩ : S67))
      (case aB => exact pw)
      (case aF => exact (fun _ _ => trivial))
      (case aO => exact (rk HO_633001))
      (case aS => exact (below_size pw))
      (case aL => have := LMc12.out; omega); intro v636 w17 ho hb hg hat; rw [← Ny635.out] at ho; have n0_ := am (blk_grown (g := gb630) (o := .cells #[.int .i64 a0_0, .slice (some ad633) l0_1.length c0_1] 74 (0, 0)) pk hg (Kd.R_ne HO_633001.out BK630.out (by decide))); have n1_ := am (blk_grown (g := gb631) (o := .cells #[.int .i64 0, .slice none 0 0] 70 (0, 0)) pk hg (Kd.R_ne HO_633001.out BK631.out (by decide))); have n2_ := am (blk_grown (g := gb632) (o := .cells #[.int .i64 a0_0, u633001] 70 (0, 0)) pk hg (Kd.R_ne HO_633001.out BK632.out (by decide))); have n3_ := am (hb); have n4_ := am (ho); clear BK630 BK631 BK632 HB HO_633001; revert n0_ n1_ n2_ n3_ n4_; intro BK630 BK631 BK632 HB HO637; clear ho hb hg hat; obtain ⟨Ao18, co18, eo18⟩ := Kd.R_slice HO637.out; (first | subst eo18 | (injection eo18 with f1_ f2_ f3_; have f4_ := f1_.symm; have f5_ := f3_.symm; clear f1_ f2_ f3_; subst f4_; subst f5_)); refine hK.out _ _ ⟨bc BK632 0, bc BK632 1, bc BK630 0, bc BK630 1, ((HB.out.cell (World.block_lt_of_cell? w _ hw633_0)).trans hw633_0), ((HB.out.cell (World.block_lt_of_cell? w _ hw633_1)).trans hw633_1), ((HB.out.cell (World.block_lt_of_cell? w _ hw634_0)).trans hw634_0), ((HB.out.cell (World.block_lt_of_cell? w _ hw634_1)).trans hw634_1)⟩ (fun hHeld => ?_); clear hK K; refine norm_ (a' := ?_) ?_ ?_; rotate_left
      ·show Act.put _ (some 31) _ = _
       simp only [sp]; rfl
      refine pure_ (i := 17) (N := some 32) (v := ?_) (a' := ?_) (bm 18 19) rfl rfl (any_of HT_.out kk) (fun _ _ _ h => h) (Or.inl ⟨by rfl, ?_⟩) ?_ ?_; rotate_left; ·intro w'; go_simp; with_reducible rfl
      rotate_left; ·simp only [sp]; rfl
      refine last_ (i := 18) (N := none) (bm 19 19) rfl rfl (one_of HT_.out kk) (by decide) (fun K hK => ?_); have hs19 : w17.cell? ⟨gb632, 1, none⟩ = some (u633001) := bc BK632 1; have hfs19 := blk_frozen BK632.out 1; have hns19_0 := NB630_632.out; have hns19_1 := NB631_632.out; have hms19_0 := NB632_630.out; have hms19_1 := NB632_631.out; refine skip_ (w1 := ?_) (by rfl) rfl ?_ ?_; rotate_left
      ·go_simp
       rfl
      refine hK.out _ _ ?_; clear hK K; refine done_ (done_of HT_.out kk) ?_; (try simp only [errW_none, errW_some])
      try go_wp2
      go_roundg k1
      case measure => have := HK1.out; omega
      case rel => exact ⟨(wrap64 (x4_1 + 1)), (y635), (.slice Ao18 y635.length co18), pr, H', ⟨by have := HK1.out; omega⟩, ⟨by (with_reducible repeat (first | apply Kd.R_alloc | apply Kd.R_drewN | apply Kd.R_drew)); exact Kd.R_mono (Kd.R_far (p := ⟨gb632, 1, none⟩) (Kd.R_types HO637.out BK632.out (by decide)) (fun _ hk => hk.2) (.slice Ao18 y635.length co18)) (fun _ hk => trivial)⟩, ⟨by (with_reducible repeat (first | refine blk_drewN ?_ _ | refine blk_drew ?_ | refine blk_alloc ?_ _)); refine blk_far ?_ NB630_632.out _; (with_reducible repeat (first | refine blk_drewN ?_ _ | refine blk_drew ?_ | refine blk_alloc ?_ _)); exact BK630.out⟩, ⟨by (with_reducible repeat (first | refine blk_drewN ?_ _ | refine blk_drew ?_ | refine blk_alloc ?_ _)); refine blk_far ?_ NB631_632.out _; (with_reducible repeat (first | refine blk_drewN ?_ _ | refine blk_drew ?_ | refine blk_alloc ?_ _)); exact BK631.out⟩, ⟨by (with_reducible repeat (first | refine blk_drewN ?_ _ | refine blk_drew ?_ | refine blk_alloc ?_ _)); refine blk_put (cs := #[.int .i64 a0_0, u633001]) ?_ 1 _ rfl; (with_reducible repeat (first | refine blk_drewN ?_ _ | refine blk_drew ?_ | refine blk_alloc ?_ _)); exact BK632.out⟩, ⟨pw⟩⟩
     rw [if_neg c12] at H; exact absurd H (by simp)
    rw [if_neg c11] at H; exact absurd H (by simp)
   rw [if_neg c10] at H; have c10b0 : decide (x4_1 < (l0_1.length : Int)) = false := decide_eq_false c10; clear c10; simp only [Option.some.injEq, Prod.mk.injEq] at H; obtain ⟨rfl, rfl⟩ := H; have hnb20 := NB630_631.out; have hnc20 := NB631_630.out; have hnb21 := NB630_632.out; have hnc21 := NB632_630.out; have hcz22_0 : wr.cell? ⟨gb630, 0, none⟩ = some (.int .i64 a0_0) := bc BK630 0; have hcz22_1 : wr.cell? ⟨gb630, 1, none⟩ = some (.slice A0_1 l0_1.length c0_1) := bc BK630 1; have hfz22_0 := blk_frozen BK630.out 0; have hfz22_1 := blk_frozen BK630.out 1; have hnb23 := NB632_631.out; have hnc23 := NB631_632.out; have hcz24_0 : wr.cell? ⟨gb632, 0, none⟩ = some (.int .i64 a0_0) := bc BK632 0; have hcz24_1 : wr.cell? ⟨gb632, 1, none⟩ = some (u633001) := bc BK632 1; have hfz24_0 := blk_frozen BK632.out 0; have hfz24_1 := blk_frozen BK632.out 1; have hcz25_0 : wr.cell? ⟨gb631, 0, none⟩ = some (.int .i64 0) := bc BK631 0; have hcz25_1 : wr.cell? ⟨gb631, 1, none⟩ = some (.slice none 0 0) := bc BK631 1; have hfz25_0 := blk_frozen BK631.out 0; have hfz25_1 := blk_frozen BK631.out 1; obtain ⟨Ao26, co26, eo26⟩ := Kd.R_slice HO_633001.out; subst eo26; go_wp2; refine bodyPost_ret (results_cell_row rfl _ _ gb631 70 #[.int .i64 a0_0, .slice Ao26 x633001_1.length co26] (0, 0) _ rfl (by (with_reducible repeat (first | refine blk_drewN ?_ _ | refine blk_drew ?_ | refine blk_alloc ?_ _)); refine blk_put (cs := #[.int .i64 a0_0, .slice none 0 0]) ?_ 1 _ rfl; (with_reducible repeat (first | refine blk_drewN ?_ _ | refine blk_drew ?_ | refine blk_alloc ?_ _)); refine blk_put (cs := #[.int .i64 0, .slice none 0 0]) ?_ 0 _ rfl; (with_reducible repeat (first | refine blk_drewN ?_ _ | refine blk_drew ?_ | refine blk_alloc ?_ _)); exact BK631.out) Tryd.underlying70 rfl kk) rfl ?_; exact ⟨_, pe, by (with_reducible repeat (first | apply Kd.R_alloc | apply Kd.R_drewN | apply Kd.R_drew)); exact Kd.R_mono (Kd.R_far (p := ⟨gb631, 1, none⟩) (Kd.R_far (p := ⟨gb631, 0, none⟩) (Kd.R_types HO_633001.out BK631.out (by decide)) (fun _ hk => hk.2) (.int .i64 a0_0)) (fun _ hk => hk.2) (.slice Ao26 x633001_1.length co26)) (fun _ hk => trivial), pw⟩

/-! ### L2_isOct: function 50 -/
def L2_isOct.f (k : Nat) (a0_0 : Int) (l0_1 : List (S146)) (a1_0 : Int) (l1_1 : List (S67)) : Option (Bool) := if a0_0 = a1_0 then ((L2_octBack.f k a0_0 l0_1).bind fun bt640 => ((R2_SameCells.f k bt640.2 l1_1).bind fun t644 => (some t644))) else (some false)
theorem L2_isOct.mono : ∀ a0 a1 a2 a3 k, LeO (L2_isOct.f k a0 a1 a2 a3) (L2_isOct.f (k + 1) a0 a1 a2 a3) := by
 intro a0 a1 a2 a3 k
 unfold L2_isOct.f
 repeat' first
   | (with_reducible exact L2_octBack.mono _ _ _)
   | (with_reducible exact R2_SameCells.mono _ _ _)
   | (with_reducible exact LeO.refl _)
   | (with_reducible exact LeO.none _)
   | (with_reducible refine LeO.ite ?_ ?_)
   | (with_reducible refine LeO.bind ?_ (fun _ => ?_))
   | exact L2_octBack.mono _ _ _
   | exact R2_SameCells.mono _ _ _
   | exact LeO.none _
   | refine LeO.ite ?_ ?_
   | refine LeO.bind ?_ (fun _ => ?_)
def L2_isOct.T1 : Bool × List (List Nat × List Nat) := (true, [([], []), ([0], [0]), ([], []), ([2], [2]), ([1, 3], [1, 3]), ([4], [4]), ([5], [5]), ([6, 5, 5], [5, 6]), ([7, 5], [5, 7]), ([5], [5]), ([9, 5], [5, 9]), ([8, 10, 7, 5], [5, 8, 10]), ([5, 11], [5, 11]), ([12, 11, 0, 1, 2, 3, 4, 5, 6, 7, 8, 9, 10, 11, 12], [12])])
def L2_isOct.B1 : List Nat := [0, 1, 0, 4, 15, 31, 63, 127, 255, 63, 575, 2047, 4095, 8191]
theorem L2_isOct.tab1 : rtab .any (opsOf Tryd.f50 1) = L2_isOct.T1 := by kernel_rfl
theorem L2_isOct.bits1 : waitsOk L2_isOct.T1.2 L2_isOct.B1 = true := by kernel_rfl
set_option maxHeartbeats 8000000 in
set_option maxRecDepth 100000 in
theorem L2_isOct.calls [EA] (k : Nat) (a0_0 : Int) (A0_1 : Option Addr) (c0_1 : Nat) (l0_1 : List (S146)) (a1_0 : Int) (A1_1 : Option Addr) (c1_1 : Nat) (l1_1 : List (S67)) (r : Bool) (w : World) (hr0_1 : Kd.C k146 w A0_1 l0_1.length l0_1) (hc0_1 : l0_1.length ≤ c0_1) (hr1_1 : Kd.C k67 w A1_1 l1_1.length l1_1) (hc1_1 : l1_1.length ≤ c1_1) (h : L2_isOct.f k a0_0 l0_1 a1_0 l1_1 = some r) :
  Calls Tryd.prog 50 #[.agg #[.int .i64 a0_0, .slice A0_1 l0_1.length c0_1], .agg #[.int .i64 a1_0, .slice A1_1 l1_1.length c1_1]] w fun e w' => e = .returned (.bool r) ∧ Below w.heap.size w w' := by
 have hu74 := Tryd.underlying74
 have hu70 := Tryd.underlying70
 have HR0_1 := am hr0_1
 have HC0_1 := am hc0_1
 clear hr0_1 hc0_1
 have HR1_1 := am hr1_1
 have HC1_1 := am hc1_1
 clear hr1_1 hc1_1
 have HB := am (Below.refl w.heap.size w)
 have H : (if a0_0 = a1_0 then ((L2_octBack.f k a0_0 l0_1).bind fun bt640 => ((R2_SameCells.f k bt640.2 l1_1).bind fun t644 => (some t644))) else (some false)) = some r := h
 clear h
 by_cases c3 : a0_0 = a1_0
 ·rw [if_pos c3] at H
  have c3b0 : (a0_0 == a1_0) = true := beq_iff_eq.mpr c3
  have c3b1 : (a0_0 != a1_0) = false := bne_eq_false_iff_eq.mpr c3
  clear c3
  replace H := Option.bind_eq_some_iff.mp H
  obtain ⟨⟨t640, t641⟩, A40, H⟩ := H
  replace H : ((R2_SameCells.f k t641 l1_1).bind fun t644 => (some t644)) = some r := H
  have A4 := am A40
  clear A40
  replace H := Option.bind_eq_some_iff.mp H
  obtain ⟨t644, A50, H⟩ := H
  replace H : (some t644) = some r := H
  have A5 := am A50
  clear A50
  obtain rfl := Option.some.inj H
  go_enter Tryd.func50, Tryd.ntmps50
  try go_wp2_with (first | ((with_reducible refine gate_dst (N := 2) rfl ?_); refine box_event ?hg (N := 2) ?hd (cs := #[.int .i64 a0_0, .slice A0_1 l0_1.length c0_1]) (t := 74) ?hr ?_; (case hd => rfl); (case hg => rfl); (case hr => first | (go_simp; done) | (go_simp; rfl)); intro gb638 hg w6 hbox hb; have n0_ := am (below_step pw hb); have n1_ := am (hbox); have n2_ := am (sz (w := w) hg pw); have n3_ := am (sz (w := w) hg pw); clear HB; revert n0_ n1_ n2_ n3_; intro HB BK638 GW638 GE638; clear hb hbox hg) | ((with_reducible refine gate_dst (N := 3) rfl ?_); refine box_event ?hg (N := 3) ?hd (cs := #[.int .i64 a1_0, .slice A1_1 l1_1.length c1_1]) (t := 70) ?hr ?_; (case hd => rfl); (case hg => rfl); (case hr => first | (go_simp; done) | (go_simp; rfl)); intro gb639 hg w7 hbox hb; have n0_ := bb BK638 hb; have n1_ := am (below_step pw hb); have n2_ := am (hbox); have n3_ := am (sz (w := w) hg pw); have n4_ := am (sz (w := w) hg pw); have n5_ := am (nl BK638 hg); have n6_ := am ((nl BK638 hg).symm); clear BK638 HB; revert n0_ n1_ n2_ n3_ n4_ n5_ n6_; intro BK638 HB BK639 GW639 GE639 NB638_639 NB639_638; clear hb hbox hg))
  have n0_ := am (blk_drew BK638.out)
  have n1_ := am (blk_drew BK639.out)
  have n2_ := am (below_drew1 HB.out)
  clear BK638 BK639 HB
  revert n0_ n1_ n2_
  intro BK638 BK639 HB
  refine start_ (n := 14) (S := fun w' => w'.cell? ⟨gb638, 0, none⟩ = some (.int .i64 a0_0) ∧ w'.cell? ⟨gb638, 1, none⟩ = some (.slice A0_1 l0_1.length c0_1) ∧ w'.cell? ⟨gb639, 0, none⟩ = some (.int .i64 a1_0) ∧ w'.cell? ⟨gb639, 1, none⟩ = some (.slice A1_1 l1_1.length c1_1)) (ds := []) (bm 0 14) kk rfl rfl ⟨bc BK638 0, bc BK638 1, bc BK639 0, bc BK639 1⟩ (fun hHeld => ?_); refine with_tabW L2_isOct.tab1 L2_isOct.bits1 (fun HT_ HW_ => ?_)
  generalize w7.drew = w8 at BK638 BK639 HB hHeld ⊢
  refine pure_ (i := 0) (N := some 5) (v := ?_) (a' := ?_) (bm 1 14) rfl rfl (any_of HT_.out kk) (fun _ _ _ h => h) (Or.inl ⟨by rfl, ?_⟩) ?_ ?_
  rotate_left; ·intro w'; go_simp; with_reducible rfl
  rotate_left; ·simp only [sp]; rfl
  refine pure_ (i := 2) (N := some 7) (v := ?_) (a' := ?_) #[true, false, true, false, false, false, false, false, false, false, false, false, false, false] rfl rfl (any_of HT_.out kk) (fun _ _ _ h => h) (Or.inl ⟨by rfl, ?_⟩) ?_ ?_
  rotate_left; ·intro w'; go_simp; with_reducible rfl
  rotate_left; ·simp only [sp]; rfl
  refine take_ (i := 1) (N := some 6) (v := ?_) (a' := ?_) (bm 3 14) rfl rfl (take_ofW HT_.out HW_.out kk) (fun _ _ _ h => h) (Or.inl ⟨by rfl, ?_⟩) hHeld ?_ ?_
  rotate_left; ·rintro w' ⟨s0, s1, s2, s3⟩; go_simp; with_reducible rfl
  rotate_left; ·simp only [sp]; rfl
  refine take_ (i := 3) (N := some 8) (v := ?_) (a' := ?_) (bm 4 14) rfl rfl (take_ofW HT_.out HW_.out kk) (fun _ _ _ h => h) (Or.inl ⟨by rfl, ?_⟩) hHeld ?_ ?_
  rotate_left; ·rintro w' ⟨s0, s1, s2, s3⟩; go_simp; with_reducible rfl
  rotate_left; ·simp only [sp]; rfl
  refine pure_ (i := 4) (N := some 9) (v := ?_) (a' := ?_) (bm 5 14) rfl rfl (any_of HT_.out kk) (fun _ _ _ h => h) (Or.inl ⟨by rfl, ?_⟩) ?_ ?_
  rotate_left; ·intro w'; go_simp; with_reducible rfl
  rotate_left; ·simp only [sp]; rfl
  refine pure_ (i := 5) (N := some 10) (v := ?_) (a' := ?_) (bm 6 14) rfl rfl (any_of HT_.out kk) (fun _ _ _ h => h) (Or.inl ⟨by rfl, ?_⟩) ?_ ?_
  rotate_left; ·intro w'; go_simp; with_reducible rfl
  rotate_left; ·simp only [sp]; rfl
  refine pure_ (i := 9) (N := some 14) (v := ?_) (a' := ?_) #[true, true, true, true, true, true, false, false, false, true, false, false, false, false] rfl rfl (any_of HT_.out kk) (fun _ _ _ h => h) (Or.inl ⟨by rfl, ?_⟩) ?_ ?_
  rotate_left; ·intro w'; go_simp; with_reducible rfl
  rotate_left; ·simp only [sp]; rfl
  refine take_ (i := 6) (N := some 11) (v := ?_) (a' := ?_) #[true, true, true, true, true, true, true, false, false, true, false, false, false, false] rfl rfl (take_ofW HT_.out HW_.out kk) (fun _ _ _ h => h) (Or.inl ⟨by rfl, ?_⟩) hHeld ?_ ?_
  rotate_left; ·rintro w' ⟨s0, s1, s2, s3⟩; go_simp; with_reducible rfl
  rotate_left; ·simp only [sp]; rfl
  refine take_ (i := 10) (N := some 15) (v := ?_) (a' := ?_) #[true, true, true, true, true, true, true, false, false, true, true, false, false, false] rfl rfl (take_ofW HT_.out HW_.out kk) (fun _ _ _ h => h) (Or.inl ⟨by rfl, ?_⟩) hHeld ?_ ?_
  rotate_left; ·rintro w' ⟨s0, s1, s2, s3⟩; go_simp; with_reducible rfl
  rotate_left; ·simp only [sp]; rfl
  refine one_ (i := 7) (N := some 12) #[true, true, true, true, true, true, true, true, false, true, true, false, false, false] rfl rfl (one_of HT_.out kk) (by decide) (fun K hK => ?_)
  refine goes_ Tryd.func113 kk rfl #[.agg #[.int .i64 a0_0, .slice A0_1 l0_1.length c0_1]] (by rfl) rfl rfl (by (try simp only [List.map_toArray, List.map_cons, List.map_nil]); first | done | rfl | (simp only [List.length_drop, List.length_take]; rfl)) ?_
  with_reducible refine (L2_octBack.calls k a0_0 _ _ l0_1 t640 t641 _ ?side1 ?side2 A4.out).mono ?_
  (case side1 => repeat (first | exact (Kd.C_below HR0_1.out HB.out) | (with_reducible refine Kd.C_alloc ?_ _) | (with_reducible refine Kd.C_drewN ?_ _) | (with_reducible refine Kd.C_drew ?_)))
  (case side2 => exact HC0_1.out)
  rintro e w9 ⟨v642, rfl, ho0, hb⟩
  refine ⟨_, rfl, ?_⟩
  have n0_ := am (Kd.R_lower ho0 (below_size pw))
  have n1_ := bb BK638 hb
  have n2_ := bb BK639 hb
  have n3_ := am (below_step pw hb)
  clear BK638 BK639 HB
  revert n0_ n1_ n2_ n3_
  intro HO643 BK638 BK639 HB
  (try clear hb)
  (try clear hb2)
  (try clear hk)
  (try clear hi)
  (try clear ho0)
  obtain ⟨Ao10, co10, eo10⟩ := Kd.R_slice HO643.out
  (first | subst eo10 | (injection eo10 with f1_ f2_ f3_; have f4_ := f1_.symm; have f5_ := f3_.symm; clear f1_ f2_ f3_; subst f4_; subst f5_))
  refine hK.out _ _ ⟨bc BK638 0, bc BK638 1, bc BK639 0, bc BK639 1⟩ (fun hHeld => ?_)
  clear hK K
  refine norm_ (a' := ?_) ?_ ?_
  rotate_left
  ·show Act.put _ (some 12) _ = _
   simp only [sp]; rfl
  refine pure_ (i := 8) (N := some 13) (v := ?_) (a' := ?_) (bm 11 14) rfl rfl (any_of HT_.out kk) (fun _ _ _ h => h) (Or.inl ⟨by rfl, ?_⟩) ?_ ?_
  rotate_left; ·intro w'; go_simp; with_reducible rfl
  rotate_left; ·simp only [sp]; rfl
  refine one_ (i := 11) (N := some 16) (bm 12 14) rfl rfl (one_of HT_.out kk) (by decide) (fun K hK => ?_)
  refine goes_ Tryd.func92 kk rfl #[.slice Ao10 t641.length co10, .slice A1_1 l1_1.length c1_1] (by rfl) rfl rfl (by (try simp only [List.map_toArray, List.map_cons, List.map_nil]); first | done | rfl | (simp only [List.length_drop, List.length_take]; rfl)) ?_
  with_reducible refine (R2_SameCells.calls k _ _ t641 _ _ l1_1 t644 _ ?side1 ?side2 ?side3 ?side4 A5.out).mono ?_
  (case side1 => repeat (first | exact (Kd.R_reads' HO643.out).2.2 | (with_reducible refine Kd.C_alloc ?_ _) | (with_reducible refine Kd.C_drewN ?_ _) | (with_reducible refine Kd.C_drew ?_)))
  (case side2 => exact (Kd.R_reads' HO643.out).2.1)
  (case side3 => repeat (first | exact (Kd.C_below HR1_1.out HB.out) | (with_reducible refine Kd.C_alloc ?_ _) | (with_reducible refine Kd.C_drewN ?_ _) | (with_reducible refine Kd.C_drew ?_)))
  (case side4 => exact HC1_1.out)
  rintro e w' ⟨rfl, ⟨nd, rfl⟩⟩
  refine ⟨_, rfl, ?_⟩
  refine hK.out _ _ ⟨bc BK638 0, bc BK638 1, bc BK639 0, bc BK639 1⟩ (fun hHeld => ?_)
  clear hK K
  refine norm_ (a' := ?_) ?_ ?_
  rotate_left
  ·show Act.put _ (some 16) _ = _
   simp only [sp]; rfl
  refine pure_ (i := 12) (N := some 17) (v := ?_) (a' := ?_) (bm 13 14) rfl rfl (any_of HT_.out kk) (fun _ _ _ h => h) (Or.inl ⟨by rfl, ?_⟩) ?_ ?_
  rotate_left; ·intro w'; go_simp; with_reducible rfl
  rotate_left; ·simp only [sp]; rfl
  refine pure_ (i := 13) (N := some 4) (v := ?_) (a' := ?_) (bm 14 14) rfl rfl (any_of HT_.out kk) (fun _ _ _ h => h) (Or.inl ⟨by rfl, ?_⟩) ?_ ?_
  rotate_left; ·intro w'; go_simp; with_reducible rfl
  rotate_left; ·simp only [sp]; rfl
  refine done_ (done_of HT_.out kk) ?_
  (try simp only [errW_none, errW_some])
  try go_wp2
  go_ret
  exact ⟨pe, pw⟩
 rw [if_neg c3] at H
 have c3b0 : (a0_0 == a1_0) = false := beq_eq_false_iff_ne.mpr c3
 have c3b1 : (a0_0 != a1_0) = true := bne_iff_ne.mpr c3
 obtain rfl := Option.some.inj H
 go_enter Tryd.func50, Tryd.ntmps50
 try go_wp2_with (first | ((with_reducible refine gate_dst (N := 2) rfl ?_); refine box_event ?hg (N := 2) ?hd (cs := #[.int .i64 a0_0, .slice A0_1 l0_1.length c0_1]) (t := 74) ?hr ?_; (case hd => rfl); (case hg => rfl); (case hr => first | (go_simp; done) | (go_simp; rfl)); intro gb638 hg w11 hbox hb; have n0_ := am (below_step pw hb); have n1_ := am (hbox); have n2_ := am (sz (w := w) hg pw); have n3_ := am (sz (w := w) hg pw); clear HB; revert n0_ n1_ n2_ n3_; intro HB BK638 GW638 GE638; clear hb hbox hg) | ((with_reducible refine gate_dst (N := 3) rfl ?_); refine box_event ?hg (N := 3) ?hd (cs := #[.int .i64 a1_0, .slice A1_1 l1_1.length c1_1]) (t := 70) ?hr ?_; (case hd => rfl); (case hg => rfl); (case hr => first | (go_simp; done) | (go_simp; rfl)); intro gb639 hg w12 hbox hb; have n0_ := bb BK638 hb; have n1_ := am (below_step pw hb); have n2_ := am (hbox); have n3_ := am (sz (w := w) hg pw); have n4_ := am (sz (w := w) hg pw); have n5_ := am (nl BK638 hg); have n6_ := am ((nl BK638 hg).symm); clear BK638 HB; revert n0_ n1_ n2_ n3_ n4_ n5_ n6_; intro BK638 HB BK639 GW639 GE639 NB638_639 NB639_638; clear hb hbox hg))
 have n0_ := am (blk_drew BK638.out)
 have n1_ := am (blk_drew BK639.out)
 have n2_ := am (below_drew1 HB.out)
 clear BK638 BK639 HB
 revert n0_ n1_ n2_
 intro BK638 BK639 HB
 refine start_ (n := 14) (S := fun w' => w'.cell? ⟨gb638, 0, none⟩ = some (.int .i64 a0_0) ∧ w'.cell? ⟨gb638, 1, none⟩ = some (.slice A0_1 l0_1.length c0_1) ∧ w'.cell? ⟨gb639, 0, none⟩ = some (.int .i64 a1_0) ∧ w'.cell? ⟨gb639, 1, none⟩ = some (.slice A1_1 l1_1.length c1_1)) (ds := []) (bm 0 14) kk rfl rfl ⟨bc BK638 0, bc BK638 1, bc BK639 0, bc BK639 1⟩ (fun hHeld => ?_); refine with_tabW L2_isOct.tab1 L2_isOct.bits1 (fun HT_ HW_ => ?_)
 generalize w12.drew = w13 at BK638 BK639 HB hHeld ⊢
 refine pure_ (i := 0) (N := some 5) (v := ?_) (a' := ?_) (bm 1 14) rfl rfl (any_of HT_.out kk) (fun _ _ _ h => h) (Or.inl ⟨by rfl, ?_⟩) ?_ ?_
 rotate_left
 ·intro w'
  go_simp
  (with_reducible rfl)
 rotate_left; ·simp only [sp]; rfl
 refine pure_ (i := 2) (N := some 7) (v := ?_) (a' := ?_) #[true, false, true, false, false, false, false, false, false, false, false, false, false, false] rfl rfl (any_of HT_.out kk) (fun _ _ _ h => h) (Or.inl ⟨by rfl, ?_⟩) ?_ ?_
 rotate_left
 ·intro w'
  go_simp
  (with_reducible rfl)
 rotate_left; ·simp only [sp]; rfl
 refine take_ (i := 1) (N := some 6) (v := ?_) (a' := ?_) (bm 3 14) rfl rfl (take_ofW HT_.out HW_.out kk) (fun _ _ _ h => h) (Or.inl ⟨by rfl, ?_⟩) hHeld ?_ ?_
 rotate_left
 ·rintro w' ⟨s0, s1, s2, s3⟩
  go_simp
  (with_reducible rfl)
 rotate_left; ·simp only [sp]; rfl
 refine take_ (i := 3) (N := some 8) (v := ?_) (a' := ?_) (bm 4 14) rfl rfl (take_ofW HT_.out HW_.out kk) (fun _ _ _ h => h) (Or.inl ⟨by rfl, ?_⟩) hHeld ?_ ?_
 rotate_left
 ·rintro w' ⟨s0, s1, s2, s3⟩
  go_simp
  (with_reducible rfl)
 rotate_left; ·simp only [sp]; rfl
 refine pure_ (i := 4) (N := some 9) (v := ?_) (a' := ?_) (bm 5 14) rfl rfl (any_of HT_.out kk) (fun _ _ _ h => h) (Or.inl ⟨by rfl, ?_⟩) ?_ ?_
 rotate_left
 ·intro w'
  go_simp
  (with_reducible rfl)
 rotate_left; ·simp only [sp]; rfl
 refine pure_ (i := 5) (N := some 10) (v := ?_) (a' := ?_) (bm 6 14) rfl rfl (any_of HT_.out kk) (fun _ _ _ h => h) (Or.inl ⟨by rfl, ?_⟩) ?_ ?_
 rotate_left
 ·intro w'
  go_simp
  (with_reducible rfl)
 rotate_left; ·simp only [sp]; rfl
 refine pure_ (i := 6) (N := some 11) (v := undef) (a' := ?_) (bm 7 14) rfl rfl (any_of HT_.out kk) (fun _ _ _ h => h) (Or.inr ⟨by rfl, rfl⟩) ?_ ?_
 rotate_left; ·simp only [sp]; rfl
 refine pure_ (i := 7) (N := some 12) (v := undef) (a' := ?_) (bm 8 14) rfl rfl (any_of HT_.out kk) (fun _ _ _ h => h) (Or.inr ⟨by rfl, rfl⟩) ?_ ?_
 rotate_left; ·simp only [sp]; rfl
 refine pure_ (i := 8) (N := some 13) (v := undef) (a' := ?_) (bm 9 14) rfl rfl (any_of HT_.out kk) (fun _ _ _ h => h) (Or.inr ⟨by rfl, rfl⟩) ?_ ?_
 rotate_left; ·simp only [sp]; rfl
 refine pure_ (i := 9) (N := some 14) (v := undef) (a' := ?_) (bm 10 14) rfl rfl (any_of HT_.out kk) (fun _ _ _ h => h) (Or.inr ⟨by rfl, rfl⟩) ?_ ?_
 rotate_left; ·simp only [sp]; rfl
 refine pure_ (i := 10) (N := some 15) (v := undef) (a' := ?_) (bm 11 14) rfl rfl (any_of HT_.out kk) (fun _ _ _ h => h) (Or.inr ⟨by rfl, rfl⟩) ?_ ?_
 rotate_left; ·simp only [sp]; rfl
 refine pure_ (i := 11) (N := some 16) (v := undef) (a' := ?_) (bm 12 14) rfl rfl (any_of HT_.out kk) (fun _ _ _ h => h) (Or.inr ⟨by rfl, rfl⟩) ?_ ?_
 rotate_left; ·simp only [sp]; rfl
 refine pure_ (i := 12) (N := some 17) (v := ?_) (a' := ?_) (bm 13 14) rfl rfl (any_of HT_.out kk) (fun _ _ _ h => h) (Or.inl ⟨by rfl, ?_⟩) ?_ ?_
 rotate_left
 ·intro w'
  go_simp
  (with_reducible rfl)
 rotate_left; ·simp only [sp]; rfl
 refine pure_ (i := 13) (N := some 4) (v := ?_) (a' := ?_) (bm 14 14) rfl rfl (any_of HT_.out kk) (fun _ _ _ h => h) (Or.inl ⟨by rfl, ?_⟩) ?_ ?_
 rotate_left
 ·intro w'
  go_simp
  (with_reducible rfl)
 rotate_left; ·simp only [sp]; rfl
 refine done_ (done_of HT_.out kk) ?_
 (try simp only [errW_none, errW_some])
 try go_wp2
 go_ret
 exact ⟨pe, pw⟩

/-! ### L2_odd: function 41 -/
def L2_odd.f (k : Nat)  : Option (Bool) := (octagon_Close.f 1 (([(⟨false, 0⟩ : S146), (⟨false, 0⟩ : S146), (⟨true, 3⟩ : S146), (⟨false, 0⟩ : S146)] : List (S146)))).bind fun bt648 => (if bt648.2.2.2.isNone = true then (if bt648.2.2.1 = true then ((L2_isOct.f k bt648.1 bt648.2.1 1 (([(⟨true, 0⟩ : S67), (⟨false, 0⟩ : S67), (⟨true, 2⟩ : S67), (⟨true, 0⟩ : S67)] : List (S67)))).bind fun t659 => (some t659)) else (some false)) else (some false))
theorem L2_odd.mono : ∀ k, LeO (L2_odd.f k ) (L2_odd.f (k + 1) ) := by
 intro  k
 unfold L2_odd.f
 repeat' first
   | (with_reducible exact L2_isOct.mono _ _ _ _ _)
   | (with_reducible exact LeO.refl _)
   | (with_reducible exact LeO.none _)
   | (with_reducible refine LeO.ite ?_ ?_)
   | (with_reducible refine LeO.bind ?_ (fun _ => ?_))
   | exact L2_isOct.mono _ _ _ _ _
   | exact LeO.none _
   | refine LeO.ite ?_ ?_
   | refine LeO.bind ?_ (fun _ => ?_)
set_option maxHeartbeats 8000000 in
set_option maxRecDepth 100000 in
theorem L2_odd.calls [EA] (k : Nat)  (r : Bool) (w : World) (h : L2_odd.f k  = some r) (h2_ : ErrAt 2 1 w) (h3_ : ErrAt 3 0 w) (h7_ : ErrAt 7 3 w) :
  Calls Tryd.prog 41 #[] w fun e w' => e = .returned (.bool r) ∧ Below w.heap.size w w' := by
 have hE2 := am h2_
 clear h2_
 have hE3 := am h3_
 clear h3_
 have hE7 := am h7_
 clear h7_
 have hu146 := Tryd.underlying146
 have hu74 := Tryd.underlying74
 have hu67 := Tryd.underlying67
 have hu70 := Tryd.underlying70
 have hu32 := Tryd.underlying32
 have HB := am (Below.refl w.heap.size w)
 have H : ((octagon_Close.f 1 (([(⟨false, 0⟩ : S146), (⟨false, 0⟩ : S146), (⟨true, 3⟩ : S146), (⟨false, 0⟩ : S146)] : List (S146)))).bind fun bt648 => (if bt648.2.2.2.isNone = true then (if bt648.2.2.1 = true then ((L2_isOct.f k bt648.1 bt648.2.1 1 (([(⟨true, 0⟩ : S67), (⟨false, 0⟩ : S67), (⟨true, 2⟩ : S67), (⟨true, 0⟩ : S67)] : List (S67)))).bind fun t659 => (some t659)) else (some false)) else (some false))) = some r := h
 clear h
 obtain ⟨y645, hy645⟩ : ∃ y_ : List (S146), y_ = (([(⟨false, 0⟩ : S146), (⟨false, 0⟩ : S146), (⟨true, 3⟩ : S146), (⟨false, 0⟩ : S146)] : List (S146))) := ⟨_, rfl⟩
 replace H : ((octagon_Close.f 1 y645).bind fun bt648 => (if bt648.2.2.2.isNone = true then (if bt648.2.2.1 = true then ((L2_isOct.f k bt648.1 bt648.2.1 1 (([(⟨true, 0⟩ : S67), (⟨false, 0⟩ : S67), (⟨true, 2⟩ : S67), (⟨true, 0⟩ : S67)] : List (S67)))).bind fun t659 => (some t659)) else (some false)) else (some false))) = some r := by first | (rw [hy645]; with_reducible exact H) | (have H2_ := (Option.bind_some _ _).symm.trans H; rw [hy645]; with_reducible exact H2_) | (have H2_ := (Option.bind_some _ _).symm.trans H; with_reducible exact H2_) | with_reducible exact H | (rw [hy645]; exact H) | exact H
 have Ny645 := am hy645
 clear hy645
 replace H := Option.bind_eq_some_iff.mp H
 obtain ⟨⟨t648, t649, t652, t653⟩, A10, H⟩ := H
 replace H : (if t653.isNone = true then (if t652 = true then ((L2_isOct.f k t648 t649 1 (([(⟨true, 0⟩ : S67), (⟨false, 0⟩ : S67), (⟨true, 2⟩ : S67), (⟨true, 0⟩ : S67)] : List (S67)))).bind fun t659 => (some t659)) else (some false)) else (some false)) = some r := H
 have A1 := am A10
 clear A10
 rcases t653 with _ | q655
 ·have H1 : (if t652 = true then ((L2_isOct.f k t648 t649 1 (([(⟨true, 0⟩ : S67), (⟨false, 0⟩ : S67), (⟨true, 2⟩ : S67), (⟨true, 0⟩ : S67)] : List (S67)))).bind fun t659 => (some t659)) else (some false)) = some r := by rw [if_pos (show (none : Option Int).isNone = true by rfl)] at H; exact H
  clear H
  have H := H1
  clear H1
  try simp only [errW_none, errW_some]
  by_cases c2 : t652 = true
  ·subst c2
   have H1 : ((L2_isOct.f k t648 t649 1 (([(⟨true, 0⟩ : S67), (⟨false, 0⟩ : S67), (⟨true, 2⟩ : S67), (⟨true, 0⟩ : S67)] : List (S67)))).bind fun t659 => (some t659)) = some r := by rw [if_pos rfl] at H; exact H
   clear H; have H := H1; clear H1; obtain ⟨y656, hy656⟩ : ∃ y_ : List (S67), y_ = (([(⟨true, 0⟩ : S67), (⟨false, 0⟩ : S67), (⟨true, 2⟩ : S67), (⟨true, 0⟩ : S67)] : List (S67))) := ⟨_, rfl⟩
   replace H : ((L2_isOct.f k t648 t649 1 y656).bind fun t659 => (some t659)) = some r := by first | (rw [hy656]; with_reducible exact H) | (have H2_ := (Option.bind_some _ _).symm.trans H; rw [hy656]; with_reducible exact H2_) | (have H2_ := (Option.bind_some _ _).symm.trans H; with_reducible exact H2_) | with_reducible exact H | (rw [hy656]; exact H) | exact H
   have Ny656 := am hy656; clear hy656; replace H := Option.bind_eq_some_iff.mp H; obtain ⟨t659, A30, H⟩ := H; replace H : (some t659) = some r := H; have A3 := am A30; clear A30; obtain rfl := Option.some.inj H; go_enter Tryd.func41, Tryd.ntmps41
   go_wp2_with (first | ((with_reducible refine gate_dst (N := 9) rfl ?_); (try (refine gate_guard (by rfl) ?_; dsimp only)); refine Kd.R_lit k146 _ 146 ?hg (N := 9) ?hd (xs := ([(⟨false, 0⟩ : S146), (⟨false, 0⟩ : S146), (⟨true, 3⟩ : S146), (⟨false, 0⟩ : S146)] : List (S146))) (inner := [.bool false, .int .i64 0, .bool false, .int .i64 0, .bool true, .int .i64 3, .bool false, .int .i64 0]) (ok := fun _ => True) (okp := fun _ => True) ?hr ?hp (fun _ hk => hk) trivial (Below.refl _ _) (Nat.le_refl _) (by simp) ?_; (case hd => rfl); (case hg => rfl); (case hr => first | (go_simp; done) | (go_simp; rfl)); (case hp => exact (Reps.c2 (show Kd.M k146 _ _ _ (⟨false, 0⟩ : S146) [.bool false, .int .i64 0] from (k146_mkM _ _ _ (⟨false, 0⟩ : S146) )) (Reps.c2 (show Kd.M k146 _ _ _ (⟨false, 0⟩ : S146) [.bool false, .int .i64 0] from (k146_mkM _ _ _ (⟨false, 0⟩ : S146) )) (Reps.c2 (show Kd.M k146 _ _ _ (⟨true, 3⟩ : S146) [.bool true, .int .i64 3] from (k146_mkM _ _ _ (⟨true, 3⟩ : S146) )) (Reps.c2 (show Kd.M k146 _ _ _ (⟨false, 0⟩ : S146) [.bool false, .int .i64 0] from (k146_mkM _ _ _ (⟨false, 0⟩ : S146) )) (Reps.none _ _)))))); intro v646 w4 ho5 hb hg_ hnew_; clear hg_ hnew_; (first | rw [← Ny645.out] at ho5 | (simp only [Int.reduceToNat] at ho5; rw [← Ny645.out] at ho5)); have n0_ := am (Kd.R_lower ho5 (below_size pw)); have n1_ := am (below_step pw hb); clear HB; revert n0_ n1_; intro HO647 HB; clear hb ho5; obtain ⟨Ao6, co6, eo6⟩ := Kd.R_slice HO647.out; subst eo6) | ((with_reducible refine gate_callee (f := 43) rfl ?_); refine goesL_ (some 11) rfl rfl Tryd.func43 kk rfl #[.agg #[.int .i64 1, .slice Ao6 y645.length co6]] rfl (by (try simp only [List.map_toArray, List.map_cons, List.map_nil]); first | done | rfl | (simp only [List.length_drop, List.length_take]; rfl)) ?_; (with_reducible refine (octagon_Close.calls 1 _ _ y645 t648 t649 true none _ ?side1 ?side2 A1.out (am (ErrAt.below hE2.out pw)).out (am (ErrAt.below hE3.out pw)).out (am (ErrAt.below hE7.out pw)).out).mono ?_); (case side1 => repeat (first | exact (Kd.R_reads' HO647.out).2.2 | (with_reducible refine Kd.C_alloc ?_ _) | (with_reducible refine Kd.C_drewN ?_ _) | (with_reducible refine Kd.C_drew ?_))); (case side2 => exact (Kd.R_reads' HO647.out).2.1); rintro e w7 ⟨v650, rfl, ho0, hb⟩; refine ⟨_, rfl, ?_⟩; have n0_ := am (Kd.R_elder' (rk HO647) (Kd.R_base ho0) hb); have n1_ := am (Kd.R_lower (Kd.R_new' ho0 (Kd.R_lt (rk HO647))) (below_size pw)); have n2_ := am (below_step pw hb); clear HO647 HB; revert n0_ n1_ n2_; intro HO647 HO651 HB; (try clear hb); (try clear hb2); (try clear hk); (try clear hi); (try clear ho0); (try simp only [errW_none, errW_some])) | ((with_reducible refine gate_dst (N := 1) rfl ?_); (try (refine gate_guard (by rfl) ?_; dsimp only)); refine box_event ?hg (N := 1) ?hd (cs := #[.int .i64 0, .slice none 0 0]) (t := 74) ?hr ?_; (case hd => rfl); (case hg => rfl); (case hr => first | (go_simp; done) | (go_simp; rfl)); intro gb654 hg w8 hbox hb; have n0_ := am (Kd.R_below (rk HO647) hb); have n1_ := am (Kd.R_below (rk HO651) hb); have n2_ := am (below_step pw hb); have n3_ := am (hbox); have n4_ := am (sz (w := w) hg pw); have n5_ := am (sz (w := w) hg pw); clear HO647 HO651 HB; revert n0_ n1_ n2_ n3_ n4_ n5_; intro HO647 HO651 HB BK654 GW654 GE654; clear hb hbox hg; have hcz9_0 : w8.cell? ⟨gb654, 0, none⟩ = some (.int .i64 0) := bc BK654 0; have hcz9_1 : w8.cell? ⟨gb654, 1, none⟩ = some (.slice none 0 0) := bc BK654 1; have hfz9_0 := blk_frozen BK654.out 0; have hfz9_1 := blk_frozen BK654.out 1; obtain ⟨Ao10, co10, eo10⟩ := Kd.R_slice HO651.out; subst eo10) | ((with_reducible refine gate_dst (N := 26) rfl ?_); (try (refine gate_guard (by rfl) ?_; dsimp only)); refine Kd.R_lit k67 _ 67 ?hg (N := 26) ?hd (xs := ([(⟨true, 0⟩ : S67), (⟨false, 0⟩ : S67), (⟨true, 2⟩ : S67), (⟨true, 0⟩ : S67)] : List (S67))) (inner := [.bool true, .int .i64 0, .bool false, .int .i64 0, .bool true, .int .i64 2, .bool true, .int .i64 0]) (ok := fun _ => True) (okp := fun _ => True) ?hr ?hp (fun _ hk => hk) trivial (Below.refl _ _) (Nat.le_refl _) (by simp) ?_; (case hd => rfl); (case hg => rfl); (case hr => first | (go_simp; done) | (go_simp; rfl)); (case hp => exact (Reps.c2 (show Kd.M k67 _ _ _ (⟨true, 0⟩ : S67) [.bool true, .int .i64 0] from (k67_mkM _ _ _ (⟨true, 0⟩ : S67) )) (Reps.c2 (show Kd.M k67 _ _ _ (⟨false, 0⟩ : S67) [.bool false, .int .i64 0] from (k67_mkM _ _ _ (⟨false, 0⟩ : S67) )) (Reps.c2 (show Kd.M k67 _ _ _ (⟨true, 2⟩ : S67) [.bool true, .int .i64 2] from (k67_mkM _ _ _ (⟨true, 2⟩ : S67) )) (Reps.c2 (show Kd.M k67 _ _ _ (⟨true, 0⟩ : S67) [.bool true, .int .i64 0] from (k67_mkM _ _ _ (⟨true, 0⟩ : S67) )) (Reps.none _ _)))))); intro v657 w11 ho12 hb hg_ hnew_; clear hg_ hnew_; (first | rw [← Ny656.out] at ho12 | (simp only [Int.reduceToNat] at ho12; rw [← Ny656.out] at ho12)); have n0_ := am (Kd.R_below (by (with_reducible repeat (first | apply Kd.R_alloc | apply Kd.R_drewN | apply Kd.R_drew)); exact (Kd.R_mono (Kd.R_far (p := ⟨gb654, 1, none⟩) (Kd.R_far (p := ⟨gb654, 0, none⟩) (Kd.R_types HO647.out BK654.out (by decide)) (fun _ hk => hk.2) (.int .i64 t648)) (fun _ hk => hk.2) (.slice Ao10 t649.length co10)) (fun _ h_ => h_.1))) hb); have n1_ := am (Kd.R_below (by (with_reducible repeat (first | apply Kd.R_alloc | apply Kd.R_drewN | apply Kd.R_drew)); exact (Kd.R_mono (Kd.R_far (p := ⟨gb654, 1, none⟩) (Kd.R_far (p := ⟨gb654, 0, none⟩) (Kd.R_types HO651.out BK654.out (by decide)) (fun _ hk => hk.2) (.int .i64 t648)) (fun _ hk => hk.2) (.slice Ao10 t649.length co10)) (fun _ h_ => h_.1))) hb); have n2_ := am (Kd.R_lower ho12 (below_size pw)); have n3_ := am (blk_below (g := gb654) (o := .cells #[.int .i64 t648, .slice Ao10 t649.length co10] 74 (0, 0)) (by (with_reducible repeat (first | refine blk_drewN ?_ _ | refine blk_drew ?_ | refine blk_alloc ?_ _)); refine blk_put (cs := #[.int .i64 t648, .slice none 0 0]) ?_ 1 _ rfl; (with_reducible repeat (first | refine blk_drewN ?_ _ | refine blk_drew ?_ | refine blk_alloc ?_ _)); refine blk_put (cs := #[.int .i64 0, .slice none 0 0]) ?_ 0 _ rfl; (with_reducible repeat (first | refine blk_drewN ?_ _ | refine blk_drew ?_ | refine blk_alloc ?_ _)); exact BK654.out) hb); have n4_ := am (below_step pw hb); clear HO647 HO651 BK654 HB; revert n0_ n1_ n2_ n3_ n4_; intro HO647 HO651 HO658 BK654 HB; clear hb ho12; obtain ⟨Ao13, co13, eo13⟩ := Kd.R_slice HO658.out; subst eo13) | (go_at_call 50; (with_reducible refine (L2_isOct.calls k t648 _ _ t649 1 _ _ y656 t659 _ ?side1 ?side2 ?side3 ?side4 A3.out).mono ?_); (case side1 => repeat (first | exact (Kd.R_reads' HO651.out).2.2 | (with_reducible refine Kd.C_alloc ?_ _) | (with_reducible refine Kd.C_drewN ?_ _) | (with_reducible refine Kd.C_drew ?_))); (case side2 => exact (Kd.R_reads' HO651.out).2.1); (case side3 => repeat (first | exact (Kd.R_reads' HO658.out).2.2 | (with_reducible refine Kd.C_alloc ?_ _) | (with_reducible refine Kd.C_drewN ?_ _) | (with_reducible refine Kd.C_drew ?_))); (case side4 => exact (Kd.R_reads' HO658.out).2.1); rintro e w14 ⟨rfl, hb⟩; have n0_ := am (Kd.R_below (rk HO647) hb); have n1_ := am (Kd.R_below (rk HO651) hb); have n2_ := am (Kd.R_below (rk HO658) hb); have n3_ := bb BK654 hb; have n4_ := am (below_step pw hb); clear HO647 HO651 HO658 BK654 HB; revert n0_ n1_ n2_ n3_ n4_; intro HO647 HO651 HO658 BK654 HB; (try clear hb); (try clear hb2); (try clear hk); (try clear hi)))
   go_ret; exact ⟨pe, pw⟩
  replace c2 := Bool.eq_false_iff.mpr c2
  subst c2
  have H1 : (some false) = some r := by rw [if_neg (show ¬ (false = true) by decide)] at H; exact H
  clear H
  have H := H1
  clear H1
  obtain rfl := Option.some.inj H
  go_enter Tryd.func41, Tryd.ntmps41
  go_wp2_with (first | ((with_reducible refine gate_dst (N := 9) rfl ?_); (try (refine gate_guard (by rfl) ?_; dsimp only)); refine Kd.R_lit k146 _ 146 ?hg (N := 9) ?hd (xs := ([(⟨false, 0⟩ : S146), (⟨false, 0⟩ : S146), (⟨true, 3⟩ : S146), (⟨false, 0⟩ : S146)] : List (S146))) (inner := [.bool false, .int .i64 0, .bool false, .int .i64 0, .bool true, .int .i64 3, .bool false, .int .i64 0]) (ok := fun _ => True) (okp := fun _ => True) ?hr ?hp (fun _ hk => hk) trivial (Below.refl _ _) (Nat.le_refl _) (by simp) ?_; (case hd => rfl); (case hg => rfl); (case hr => first | (go_simp; done) | (go_simp; rfl)); (case hp => exact (Reps.c2 (show Kd.M k146 _ _ _ (⟨false, 0⟩ : S146) [.bool false, .int .i64 0] from (k146_mkM _ _ _ (⟨false, 0⟩ : S146) )) (Reps.c2 (show Kd.M k146 _ _ _ (⟨false, 0⟩ : S146) [.bool false, .int .i64 0] from (k146_mkM _ _ _ (⟨false, 0⟩ : S146) )) (Reps.c2 (show Kd.M k146 _ _ _ (⟨true, 3⟩ : S146) [.bool true, .int .i64 3] from (k146_mkM _ _ _ (⟨true, 3⟩ : S146) )) (Reps.c2 (show Kd.M k146 _ _ _ (⟨false, 0⟩ : S146) [.bool false, .int .i64 0] from (k146_mkM _ _ _ (⟨false, 0⟩ : S146) )) (Reps.none _ _)))))); intro v646 w15 ho16 hb hg_ hnew_; clear hg_ hnew_; (first | rw [← Ny645.out] at ho16 | (simp only [Int.reduceToNat] at ho16; rw [← Ny645.out] at ho16)); have n0_ := am (Kd.R_lower ho16 (below_size pw)); have n1_ := am (below_step pw hb); clear HB; revert n0_ n1_; intro HO647 HB; clear hb ho16; obtain ⟨Ao17, co17, eo17⟩ := Kd.R_slice HO647.out; subst eo17) | ((with_reducible refine gate_callee (f := 43) rfl ?_); refine goesL_ (some 11) rfl rfl Tryd.func43 kk rfl #[.agg #[.int .i64 1, .slice Ao17 y645.length co17]] rfl (by (try simp only [List.map_toArray, List.map_cons, List.map_nil]); first | done | rfl | (simp only [List.length_drop, List.length_take]; rfl)) ?_; (with_reducible refine (octagon_Close.calls 1 _ _ y645 t648 t649 false none _ ?side1 ?side2 A1.out (am (ErrAt.below hE2.out pw)).out (am (ErrAt.below hE3.out pw)).out (am (ErrAt.below hE7.out pw)).out).mono ?_); (case side1 => repeat (first | exact (Kd.R_reads' HO647.out).2.2 | (with_reducible refine Kd.C_alloc ?_ _) | (with_reducible refine Kd.C_drewN ?_ _) | (with_reducible refine Kd.C_drew ?_))); (case side2 => exact (Kd.R_reads' HO647.out).2.1); rintro e w18 ⟨v650, rfl, ho0, hb⟩; refine ⟨_, rfl, ?_⟩; have n0_ := am (Kd.R_elder' (rk HO647) (Kd.R_base ho0) hb); have n1_ := am (Kd.R_lower (Kd.R_new' ho0 (Kd.R_lt (rk HO647))) (below_size pw)); have n2_ := am (below_step pw hb); clear HO647 HB; revert n0_ n1_ n2_; intro HO647 HO651 HB; (try clear hb); (try clear hb2); (try clear hk); (try clear hi); (try clear ho0); (try simp only [errW_none, errW_some])) | ((with_reducible refine gate_dst (N := 1) rfl ?_); (try (refine gate_guard (by rfl) ?_; dsimp only)); refine box_event ?hg (N := 1) ?hd (cs := #[.int .i64 0, .slice none 0 0]) (t := 74) ?hr ?_; (case hd => rfl); (case hg => rfl); (case hr => first | (go_simp; done) | (go_simp; rfl)); intro gb654 hg w19 hbox hb; have n0_ := am (Kd.R_below (rk HO647) hb); have n1_ := am (Kd.R_below (rk HO651) hb); have n2_ := am (below_step pw hb); have n3_ := am (hbox); have n4_ := am (sz (w := w) hg pw); have n5_ := am (sz (w := w) hg pw); clear HO647 HO651 HB; revert n0_ n1_ n2_ n3_ n4_ n5_; intro HO647 HO651 HB BK654 GW654 GE654; clear hb hbox hg; have hcz20_0 : w19.cell? ⟨gb654, 0, none⟩ = some (.int .i64 0) := bc BK654 0; have hcz20_1 : w19.cell? ⟨gb654, 1, none⟩ = some (.slice none 0 0) := bc BK654 1; have hfz20_0 := blk_frozen BK654.out 0; have hfz20_1 := blk_frozen BK654.out 1; obtain ⟨Ao21, co21, eo21⟩ := Kd.R_slice HO651.out; subst eo21))
  go_ret
  exact ⟨pe, pw⟩
 have H1 : (some false) = some r := by rw [if_neg (show ¬ (some q655).isNone = true by simp)] at H; exact H
 clear H
 have H := H1
 clear H1
 try simp only [errW_none, errW_some]
 obtain rfl := Option.some.inj H
 go_enter Tryd.func41, Tryd.ntmps41
 go_wp2_with (first | ((with_reducible refine gate_dst (N := 9) rfl ?_); (try (refine gate_guard (by rfl) ?_; dsimp only)); refine Kd.R_lit k146 _ 146 ?hg (N := 9) ?hd (xs := ([(⟨false, 0⟩ : S146), (⟨false, 0⟩ : S146), (⟨true, 3⟩ : S146), (⟨false, 0⟩ : S146)] : List (S146))) (inner := [.bool false, .int .i64 0, .bool false, .int .i64 0, .bool true, .int .i64 3, .bool false, .int .i64 0]) (ok := fun _ => True) (okp := fun _ => True) ?hr ?hp (fun _ hk => hk) trivial (Below.refl _ _) (Nat.le_refl _) (by simp) ?_; (case hd => rfl); (case hg => rfl); (case hr => first | (go_simp; done) | (go_simp; rfl)); (case hp => exact (Reps.c2 (show Kd.M k146 _ _ _ (⟨false, 0⟩ : S146) [.bool false, .int .i64 0] from (k146_mkM _ _ _ (⟨false, 0⟩ : S146) )) (Reps.c2 (show Kd.M k146 _ _ _ (⟨false, 0⟩ : S146) [.bool false, .int .i64 0] from (k146_mkM _ _ _ (⟨false, 0⟩ : S146) )) (Reps.c2 (show Kd.M k146 _ _ _ (⟨true, 3⟩ : S146) [.bool true, .int .i64 3] from (k146_mkM _ _ _ (⟨true, 3⟩ : S146) )) (Reps.c2 (show Kd.M k146 _ _ _ (⟨false, 0⟩ : S146) [.bool false, .int .i64 0] from (k146_mkM _ _ _ (⟨false, 0⟩ : S146) )) (Reps.none _ _)))))); intro v646 w22 ho23 hb hg_ hnew_; clear hg_ hnew_; (first | rw [← Ny645.out] at ho23 | (simp only [Int.reduceToNat] at ho23; rw [← Ny645.out] at ho23)); have n0_ := am (Kd.R_lower ho23 (below_size pw)); have n1_ := am (below_step pw hb); clear HB; revert n0_ n1_; intro HO647 HB; clear hb ho23; obtain ⟨Ao24, co24, eo24⟩ := Kd.R_slice HO647.out; subst eo24) | ((with_reducible refine gate_callee (f := 43) rfl ?_); refine goesL_ (some 11) rfl rfl Tryd.func43 kk rfl #[.agg #[.int .i64 1, .slice Ao24 y645.length co24]] rfl (by (try simp only [List.map_toArray, List.map_cons, List.map_nil]); first | done | rfl | (simp only [List.length_drop, List.length_take]; rfl)) ?_; (with_reducible refine (octagon_Close.calls 1 _ _ y645 t648 t649 t652 (some q655) _ ?side1 ?side2 A1.out (am (ErrAt.below hE2.out pw)).out (am (ErrAt.below hE3.out pw)).out (am (ErrAt.below hE7.out pw)).out).mono ?_); (case side1 => repeat (first | exact (Kd.R_reads' HO647.out).2.2 | (with_reducible refine Kd.C_alloc ?_ _) | (with_reducible refine Kd.C_drewN ?_ _) | (with_reducible refine Kd.C_drew ?_))); (case side2 => exact (Kd.R_reads' HO647.out).2.1); rintro e w25 ⟨v650, rfl, ho0, hb⟩; refine ⟨_, rfl, ?_⟩; have n0_ := am (Kd.R_elder' (rk HO647) (Kd.R_base ho0) hb); have n1_ := am (Kd.R_lower (Kd.R_new' ho0 (Kd.R_lt (rk HO647))) (below_size pw)); have n2_ := am (below_step pw hb); clear HO647 HB; revert n0_ n1_ n2_; intro HO647 HO651 HB; (try clear hb); (try clear hb2); (try clear hk); (try clear hi); (try clear ho0); (try simp only [errW_none, errW_some])) | ((with_reducible refine gate_dst (N := 1) rfl ?_); (try (refine gate_guard (by rfl) ?_; dsimp only)); refine box_event ?hg (N := 1) ?hd (cs := #[.int .i64 0, .slice none 0 0]) (t := 74) ?hr ?_; (case hd => rfl); (case hg => rfl); (case hr => first | (go_simp; done) | (go_simp; rfl)); intro gb654 hg w26 hbox hb; have n0_ := am (Kd.R_below (rk HO647) hb); have n1_ := am (Kd.R_below (rk HO651) hb); have n2_ := am (below_step pw hb); have n3_ := am (hbox); have n4_ := am (sz (w := w) hg pw); have n5_ := am (sz (w := w) hg pw); clear HO647 HO651 HB; revert n0_ n1_ n2_ n3_ n4_ n5_; intro HO647 HO651 HB BK654 GW654 GE654; clear hb hbox hg; have hcz27_0 : w26.cell? ⟨gb654, 0, none⟩ = some (.int .i64 0) := bc BK654 0; have hcz27_1 : w26.cell? ⟨gb654, 1, none⟩ = some (.slice none 0 0) := bc BK654 1; have hfz27_0 := blk_frozen BK654.out 0; have hfz27_1 := blk_frozen BK654.out 1; obtain ⟨Ao28, co28, eo28⟩ := Kd.R_slice HO651.out; subst eo28))
 go_ret
 exact ⟨pe, pw⟩

/-! ### R2_other: function 104 -/
def R2_other.f (a0 : Int) : Option (Int) := if (Int.tmod a0 2) = 0 then (some (wrap64 (a0 + 1))) else (some (wrap64 (a0 - 1)))
set_option maxHeartbeats 8000000 in
set_option maxRecDepth 100000 in
theorem R2_other.calls [EA] (a0 : Int) (r : Int) (w : World) (h : R2_other.f a0 = some r) :
  Calls Tryd.prog 104 #[.int .i64 a0] w fun e w' => e = .returned (.int .i64 r) ∧ Drawn0 w w' := by
 have H : (if (Int.tmod a0 2) = 0 then (some (wrap64 (a0 + 1))) else (some (wrap64 (a0 - 1)))) = some r := h
 clear h
 by_cases c2 : (Int.tmod a0 2) = 0
 ·rw [if_pos c2] at H
  have c2b0 : ((Int.tmod a0 2) == 0) = true := beq_iff_eq.mpr c2
  have c2b1 : ((Int.tmod a0 2) != 0) = false := bne_eq_false_iff_eq.mpr c2
  clear c2
  obtain rfl := Option.some.inj H
  go_enter Tryd.func104, Tryd.ntmps104
  go_wp2
  go_ret
  exact ⟨by first | rfl | (simp; done) | (simp [*]; done), by repeat (first | exact Drawn0.refl _ | apply Drawn0.step)⟩
 rw [if_neg c2] at H
 have c2b0 : ((Int.tmod a0 2) == 0) = false := beq_eq_false_iff_ne.mpr c2
 have c2b1 : ((Int.tmod a0 2) != 0) = true := bne_iff_ne.mpr c2
 obtain rfl := Option.some.inj H
 go_enter Tryd.func104, Tryd.ntmps104
 go_wp2
 go_ret
 exact ⟨by first | rfl | (simp; done) | (simp [*]; done), by repeat (first | exact Drawn0.refl _ | apply Drawn0.step)⟩

end Go.Proofs.YtcalcnfppnbooaaDoor.Z
