import Derived.Test.YtcalcnfppnbooaaDoorZlSp
import Derived.Test.YtcalcnfppnbooaaDoorZlEb
import Derived.Test.YtcalcnfppnbooaaDoorZlZ0
import Derived.Test.YtcalcnfppnbooaaDoorZlZ6
import Derived.Test.YtcalcnfppnbooaaDoorZlZ7
-- Written by wip/xprint.py (the session's program over the kit's print).
namespace Go.Proofs.YtcalcnfppnbooaaDoor.Z
open Go.RowKit Go.Proofs.YtcalcnfppnbooaaDoorW.PrintWords Go.Proofs.YtcalcnfppnbooaaDoorW.PrintLast Go.Proofs.YtcalcnfppnbooaaDoorW.PrintMore Go.Proofs.Rcg
attribute [local go_sem] max2_int min2_int max_two min_two max_three min_three max_four min_four   -- for this text's walks alone
set_option linter.unusedVariables false
set_option linter.unusedSimpArgs false

/-! ### R2_MetZone: function 55 -/
def R2_MetZone.l0 : Nat → Int → Int → List (S67) → Int → List (S67) → Option (Int × (List (S67)))
 | 0, _, _, _, _, _ => none
 | k + 1, x6, x296000, x296001, x298000, x298001 => if x6 < (x298001.length : Int) then (if 0 ≤ x6 then (if x6 < (x296001.length : Int) then (if (rd_T67 x296001 x6).f0 = true then ((R2_lower.f x298001 x6 ((rd_T67 x296001 x6).f1)).bind fun bt303 => (R2_MetZone.l0 k (wrap64 (x6 + 1)) x296000 x296001 x298000 bt303.2)) else (R2_MetZone.l0 k (wrap64 (x6 + 1)) x296000 x296001 x298000 x298001)) else (none)) else (none)) else (some (x298000, x298001))
def R2_MetZone.f (k : Nat) (a0_0 : Int) (l0_1 : List (S67)) (a1_0 : Int) (l1_1 : List (S67)) : Option (Int × (List (S67))) := if ([] : List (S67)).length + l0_1.length < 8796093022208 then (R2_MetZone.l0 k 0 a1_0 l1_1 a0_0 (([] : List (S67)) ++ l0_1)) else (none)
theorem R2_MetZone.mono_l : ∀ k, (∀ y0 y1 y2 y3 y4, LeO (R2_MetZone.l0 k y0 y1 y2 y3 y4) (R2_MetZone.l0 (k + 1) y0 y1 y2 y3 y4))
 | 0 => fun _ _ _ _ _ r h => by simp [R2_MetZone.l0] at h
 | k + 1 => by
  have ih0 := R2_MetZone.mono_l k
  intro y0 y1 y2 y3 y4
  unfold R2_MetZone.l0
  repeat' first
  | (with_reducible exact ih0 _ _ _ _ _)
  | (with_reducible exact LeO.refl _)
  | (with_reducible exact LeO.none _)
  | (with_reducible refine LeO.ite ?_ ?_)
  | (with_reducible refine LeO.bind ?_ (fun _ => ?_))
  | exact ih0 _ _ _ _ _
  | exact LeO.none _
  | refine LeO.ite ?_ ?_
  | refine LeO.bind ?_ (fun _ => ?_)
theorem R2_MetZone.mono : ∀ a0 a1 a2 a3 k, LeO (R2_MetZone.f k a0 a1 a2 a3) (R2_MetZone.f (k + 1) a0 a1 a2 a3) := by
 intro a0 a1 a2 a3 k
 have ih0 := R2_MetZone.mono_l k
 unfold R2_MetZone.f
 repeat' first
   | (with_reducible exact ih0 _ _ _ _ _)
   | (with_reducible exact LeO.refl _)
   | (with_reducible exact LeO.none _)
   | (with_reducible refine LeO.ite ?_ ?_)
   | (with_reducible refine LeO.bind ?_ (fun _ => ?_))
   | exact ih0 _ _ _ _ _
   | exact LeO.none _
   | refine LeO.ite ?_ ?_
   | refine LeO.bind ?_ (fun _ => ?_)
def R2_MetZone.T7 : Bool × List (List Nat × List Nat) := (true, [([], []), ([0], [0]), ([], []), ([], []), ([3], [3]), ([], []), ([4, 5], [4, 5]), ([6], [6]), ([7], [7]), ([1, 2, 8], [1, 2, 8])])
def R2_MetZone.B7 : List Nat := [0, 1, 0, 0, 8, 0, 56, 120, 248, 511]
theorem R2_MetZone.tab7 : rtab .any (opsOf Tryd.f55 7) = R2_MetZone.T7 := by kernel_rfl
theorem R2_MetZone.bits7 : waitsOk R2_MetZone.T7.2 R2_MetZone.B7 = true := by kernel_rfl
set_option maxHeartbeats 8000000 in
set_option maxRecDepth 100000 in
theorem R2_MetZone.calls [EA] (k : Nat) (a0_0 : Int) (A0_1 : Option Addr) (c0_1 : Nat) (l0_1 : List (S67)) (a1_0 : Int) (A1_1 : Option Addr) (c1_1 : Nat) (l1_1 : List (S67)) (r1 : Int) (r2 : List (S67)) (w : World) (hr0_1 : Kd.C k67 w A0_1 l0_1.length l0_1) (hc0_1 : l0_1.length ≤ c0_1) (hr1_1 : Kd.C k67 w A1_1 l1_1.length l1_1) (hc1_1 : l1_1.length ≤ c1_1) (h : R2_MetZone.f k a0_0 l0_1 a1_0 l1_1 = some (r1, r2)) :
  Calls Tryd.prog 55 #[.agg #[.int .i64 a0_0, .slice A0_1 l0_1.length c0_1], .agg #[.int .i64 a1_0, .slice A1_1 l1_1.length c1_1]] w fun e w' => ∃ v1_ : Value, e = .returned (.agg #[.int .i64 r1, v1_]) ∧ Kd.R k67 67 w' w.heap.size (fun _ => True) v1_ r2 ∧ Below w.heap.size w w' := by
 have hu24 := Tryd.underlying24
 have HR0_1 := am hr0_1
 have HC0_1 := am hc0_1
 clear hr0_1 hc0_1
 have HR1_1 := am hr1_1
 have HC1_1 := am hc1_1
 clear hr1_1 hc1_1
 have HB := am (Below.refl w.heap.size w)
 have H : (if ([] : List (S67)).length + l0_1.length < 8796093022208 then (R2_MetZone.l0 k 0 a1_0 l1_1 a0_0 (([] : List (S67)) ++ l0_1)) else (none)) = some (r1, r2) := h
 clear h
 by_cases c3 : ([] : List (S67)).length + l0_1.length < 8796093022208
 ·rw [if_pos c3] at H
  have LMc3 := am c3
  clear c3
  obtain ⟨y298, hy298⟩ : ∃ y_ : List (S67), y_ = (([] : List (S67)) ++ l0_1) := ⟨_, rfl⟩
  replace H : (R2_MetZone.l0 k 0 a1_0 l1_1 a0_0 y298) = some (r1, r2) := by first | (rw [hy298]; with_reducible exact H) | (have H2_ := (Option.bind_some _ _).symm.trans H; rw [hy298]; with_reducible exact H2_) | (have H2_ := (Option.bind_some _ _).symm.trans H; with_reducible exact H2_) | with_reducible exact H | (rw [hy298]; exact H) | exact H
  have Ny298 := am hy298
  clear hy298
  have H' := am H
  clear H
  go_enter Tryd.func55, Tryd.ntmps55
  go_wp2_with (first | ((with_reducible refine gate_dst (N := 2) rfl ?_); refine box_event ?hg (N := 2) ?hd (cs := #[.int .i64 a0_0, .slice A0_1 l0_1.length c0_1]) (t := 24) ?hr ?_; (case hd => rfl); (case hg => rfl); (case hr => first | (go_simp; done) | (go_simp; rfl)); intro gb294 hg w4 hbox hb; have n0_ := am (below_step pw hb); have n1_ := am (hbox); have n2_ := am (sz (w := w) hg pw); have n3_ := am (sz (w := w) hg pw); clear HB; revert n0_ n1_ n2_ n3_; intro HB BK294 GW294 GE294; clear hb hbox hg) | ((with_reducible refine gate_dst (N := 3) rfl ?_); refine box_event ?hg (N := 3) ?hd (cs := #[.int .i64 a1_0, .slice A1_1 l1_1.length c1_1]) (t := 24) ?hr ?_; (case hd => rfl); (case hg => rfl); (case hr => first | (go_simp; done) | (go_simp; rfl)); intro gb295 hg w5 hbox hb; have n0_ := bb BK294 hb; have n1_ := am (below_step pw hb); have n2_ := am (hbox); have n3_ := am (sz (w := w) hg pw); have n4_ := am (sz (w := w) hg pw); have n5_ := am (nl BK294 hg); have n6_ := am ((nl BK294 hg).symm); clear BK294 HB; revert n0_ n1_ n2_ n3_ n4_ n5_ n6_; intro BK294 HB BK295 GW295 GE295 NB294_295 NB295_294; clear hb hbox hg) | ((with_reducible refine gate_dst (N := 4) rfl ?_); refine box_event ?hg (N := 4) ?hd (cs := #[.int .i64 0, .slice none 0 0]) (t := 24) ?hr ?_; (case hd => rfl); (case hg => rfl); (case hr => first | (go_simp; done) | (go_simp; rfl)); intro gb296 hg w6 hbox hb; have n0_ := bb BK294 hb; have n1_ := bb BK295 hb; have n2_ := am (below_step pw hb); have n3_ := am (hbox); have n4_ := am (sz (w := w) hg pw); have n5_ := am (sz (w := w) hg pw); have n6_ := am (nl BK294 hg); have n7_ := am ((nl BK294 hg).symm); have n8_ := am (nl BK295 hg); have n9_ := am ((nl BK295 hg).symm); clear BK294 BK295 HB; revert n0_ n1_ n2_ n3_ n4_ n5_ n6_ n7_ n8_ n9_; intro BK294 BK295 HB BK296 GW296 GE296 NB294_296 NB296_294 NB295_296 NB296_295; clear hb hbox hg; have hnb7 := NB294_295.out; have hnc7 := NB295_294.out; have hnb8 := NB294_296.out; have hnc8 := NB296_294.out; have hcz9_0 : w6.cell? ⟨gb294, 0, none⟩ = some (.int .i64 a0_0) := bc BK294 0; have hcz9_1 : w6.cell? ⟨gb294, 1, none⟩ = some (.slice A0_1 l0_1.length c0_1) := bc BK294 1; have hfz9_0 := blk_frozen BK294.out 0; have hfz9_1 := blk_frozen BK294.out 1) | ((with_reducible refine gate_dst (N := 5) rfl ?_); refine box_event ?hg (N := 5) ?hd (cs := #[.int .i64 0, .slice none 0 0]) (t := 24) ?hr ?_; (case hd => rfl); (case hg => rfl); (case hr => first | (go_simp; done) | (go_simp; rfl)); intro gb297 hg w10 hbox hb; have n0_ := bb BK294 hb; have n1_ := bb BK295 hb; have n2_ := bb BK296 hb; have n3_ := am (below_step pw hb); have n4_ := am (hbox); have n5_ := am (sz (w := w) hg pw); have n6_ := am (sz (w := w) hg pw); have n7_ := am (nl BK294 hg); have n8_ := am ((nl BK294 hg).symm); have n9_ := am (nl BK295 hg); have n10_ := am ((nl BK295 hg).symm); have n11_ := am (nl BK296 hg); have n12_ := am ((nl BK296 hg).symm); clear BK294 BK295 BK296 HB; revert n0_ n1_ n2_ n3_ n4_ n5_ n6_ n7_ n8_ n9_ n10_ n11_ n12_; intro BK294 BK295 BK296 HB BK297 GW297 GE297 NB294_297 NB297_294 NB295_297 NB297_295 NB296_297 NB297_296; clear hb hbox hg; have hnb11 := NB297_294.out; have hnc11 := NB294_297.out; have hnb12 := NB297_295.out; have hnc12 := NB295_297.out; have hnb13 := NB297_296.out; have hnc13 := NB296_297.out; have hcz14_0 : w10.cell? ⟨gb297, 0, none⟩ = some (.int .i64 0) := bc BK297 0; have hcz14_1 : w10.cell? ⟨gb297, 1, none⟩ = some (.slice none 0 0) := bc BK297 1; have hfz14_0 := blk_frozen BK297.out 0; have hfz14_1 := blk_frozen BK297.out 1; have hcz15_0 : w10.cell? ⟨gb294, 0, none⟩ = some (.int .i64 a0_0) := bc BK294 0; have hcz15_1 : w10.cell? ⟨gb294, 1, none⟩ = some (.slice A0_1 l0_1.length c0_1) := bc BK294 1; have hfz15_0 := blk_frozen BK294.out 0; have hfz15_1 := blk_frozen BK294.out 1) | ((with_reducible refine gate_builtin (b := .append) (xs := #[.tmp 11, .tmp 13]) rfl ?_); at_builtin; refine Kd.R_append_rows k67 (w0 := w) w.heap.size rfl (.tmp 11) (.tmp 13) 22 67 (.agg #[(.bool false), (.int .i64 0)]) 16 rfl Tryd.underlying22 info67 rfl (by decide) (by omega) (.slice none 0 0) ([] : List (S67)) l0_1 _ _ _ (fun _ => True) (fun _ => False) rfl rfl ?aO ?aR (fun _ _ h => h) (fun _ h => h.elim) ?aF ?aB ?aS ?aL ?_; (case aR => exact Kd.C_below HR0_1.out pw); (case aB => exact pw); (case aF => exact (fun _ _ => trivial)); (case aO => exact ((Kd.R_nil _ _ _ _ (fun _ => True)))); (case aS => exact (below_size pw)); (case aL => have := LMc3.out; omega); intro v299 w16 ho hb hg hat; rw [← Ny298.out] at ho; have n0_ := am (blk_grown (g := gb294) (o := .cells #[.int .i64 a0_0, .slice A0_1 l0_1.length c0_1] 24 (0, 0)) pff hg (by simp [Value.ownBlock])); have n1_ := am (blk_grown (g := gb295) (o := .cells #[.int .i64 a1_0, .slice A1_1 l1_1.length c1_1] 24 (0, 0)) pff hg (by simp [Value.ownBlock])); have n2_ := am (blk_grown (g := gb296) (o := .cells #[.int .i64 0, .slice none 0 0] 24 (0, 0)) pff hg (by simp [Value.ownBlock])); have n3_ := am (blk_grown (g := gb297) (o := .cells #[.int .i64 a0_0, .slice none 0 0] 24 (0, 0)) (by (with_reducible repeat (first | refine blk_drewN ?_ _ | refine blk_drew ?_ | refine blk_alloc ?_ _)); refine blk_put (cs := #[.int .i64 a0_0, .slice none 0 0]) ?_ 1 _ rfl; (with_reducible repeat (first | refine blk_drewN ?_ _ | refine blk_drew ?_ | refine blk_alloc ?_ _)); refine blk_put (cs := #[.int .i64 0, .slice none 0 0]) ?_ 0 _ rfl; (with_reducible repeat (first | refine blk_drewN ?_ _ | refine blk_drew ?_ | refine blk_alloc ?_ _)); exact BK297.out) hg (by simp [Value.ownBlock])); have n4_ := am (hb); have n5_ := am (ho); clear BK294 BK295 BK296 BK297 HB; revert n0_ n1_ n2_ n3_ n4_ n5_; intro BK294 BK295 BK296 BK297 HB HO300; clear ho hb hg hat; obtain ⟨Ao17, co17, eo17⟩ := Kd.R_slice HO300.out; subst eo17; have hcz18_0 : w16.cell? ⟨gb297, 0, none⟩ = some (.int .i64 a0_0) := bc BK297 0; have hcz18_1 : w16.cell? ⟨gb297, 1, none⟩ = some (.slice none 0 0) := bc BK297 1; have hfz18_0 := blk_frozen BK297.out 0; have hfz18_1 := blk_frozen BK297.out 1))
  go_loopg [6] k (fun kq v6 w' => ∃ (x6_1 : Int) (x298001_1 : List (S67)) (u298001 : Value), v6 = .int .i64 x6_1 ∧ Aside0 (R2_MetZone.l0 kq x6_1 a1_0 l1_1 a0_0 x298001_1 = some (r1, r2)) ∧ Aside0 (kq ≤ k) ∧ Aside0 (Kd.R k67 67 w' w.heap.size (fun _ => True) u298001 x298001_1) ∧ Aside0 (w'.heap[gb294]? = some (.cells #[.int .i64 a0_0, (.slice A0_1 l0_1.length c0_1)] 24 (0, 0))) ∧ Aside0 (w'.heap[gb295]? = some (.cells #[.int .i64 a1_0, (.slice A1_1 l1_1.length c1_1)] 24 (0, 0))) ∧ Aside0 (w'.heap[gb296]? = some (.cells #[.int .i64 0, (.slice none 0 0)] 24 (0, 0))) ∧ Aside0 (w'.heap[gb297]? = some (.cells #[.int .i64 a0_0, u298001] 24 (0, 0))) ∧ Aside0 (Below w.heap.size w w'))
  case atStart => exact ⟨(0), (y298), (.slice Ao17 y298.length co17), pr, H', ⟨Nat.le_refl _⟩, ⟨by (with_reducible repeat (first | apply Kd.R_alloc | apply Kd.R_drewN | apply Kd.R_drew)); exact Kd.R_mono (Kd.R_far (p := ⟨gb297, 1, none⟩) (Kd.R_types HO300.out BK297.out (by decide)) (fun _ hk => hk.2) (.slice Ao17 y298.length co17)) (fun _ hk => trivial)⟩, ⟨by (with_reducible repeat (first | refine blk_drewN ?_ _ | refine blk_drew ?_ | refine blk_alloc ?_ _)); refine blk_far ?_ NB294_297.out _; (with_reducible repeat (first | refine blk_drewN ?_ _ | refine blk_drew ?_ | refine blk_alloc ?_ _)); exact BK294.out⟩, ⟨by (with_reducible repeat (first | refine blk_drewN ?_ _ | refine blk_drew ?_ | refine blk_alloc ?_ _)); refine blk_far ?_ NB295_297.out _; (with_reducible repeat (first | refine blk_drewN ?_ _ | refine blk_drew ?_ | refine blk_alloc ?_ _)); exact BK295.out⟩, ⟨by (with_reducible repeat (first | refine blk_drewN ?_ _ | refine blk_drew ?_ | refine blk_alloc ?_ _)); refine blk_far ?_ NB296_297.out _; (with_reducible repeat (first | refine blk_drewN ?_ _ | refine blk_drew ?_ | refine blk_alloc ?_ _)); exact BK296.out⟩, ⟨by (with_reducible repeat (first | refine blk_drewN ?_ _ | refine blk_drew ?_ | refine blk_alloc ?_ _)); refine blk_put (cs := #[.int .i64 a0_0, .slice none 0 0]) ?_ 1 _ rfl; (with_reducible repeat (first | refine blk_drewN ?_ _ | refine blk_drew ?_ | refine blk_alloc ?_ _)); exact BK297.out⟩, ⟨pw⟩⟩
  case round =>
   clear H'; (try clear c1); (try clear p2); (try clear c3); (try clear c5); (try clear c7); (try clear c8); (try clear c11); (try clear c12); (try clear c13); (try clear hcz14_0); (try clear hcz14_1); (try clear hcz15_0); (try clear hcz15_1); (try clear hcz18_0); (try clear hcz18_1); (try clear hcz9_0); (try clear hcz9_1); (try clear hfz14_0); (try clear hfz14_1); (try clear hfz15_0); (try clear hfz15_1); (try clear hfz18_0); (try clear hfz18_1); (try clear hfz9_0); (try clear hfz9_1); obtain ⟨x6_1, x298001_1, u298001, rfl, HA, HK1, HO_298001, BK294, BK295, BK296, BK297, HB⟩ := hrel; cases gk with
   | zero => exact absurd HA.out (by simp [R2_MetZone.l0])
   | succ k1 =>
    have H := HA.out; clear HA; simp only [R2_MetZone.l0] at H; by_cases c19 : x6_1 < (x298001_1.length : Int)
    ·rw [if_pos c19] at H
     have c19b0 : decide (x6_1 < (x298001_1.length : Int)) = true := decide_eq_true c19; clear c19; by_cases c20 : 0 ≤ x6_1
     ·rw [if_pos c20] at H
      have c20b0 : decide (0 ≤ x6_1) = true := decide_eq_true c20; clear c20; by_cases c21 : x6_1 < (l1_1.length : Int)
      ·rw [if_pos c21] at H
       have c21b0 : decide (x6_1 < (l1_1.length : Int)) = true := decide_eq_true c21; clear c21; obtain ⟨bq22, hbq22⟩ : ∃ b_ : Bool, b_ = ((rd_T67 l1_1 x6_1).f0) := ⟨_, rfl⟩
       replace H : (if bq22 = true then ((R2_lower.f x298001_1 x6_1 ((rd_T67 l1_1 x6_1).f1)).bind fun bt303 => (R2_MetZone.l0 k1 (wrap64 (x6_1 + 1)) a1_0 l1_1 a0_0 bt303.2)) else (R2_MetZone.l0 k1 (wrap64 (x6_1 + 1)) a1_0 l1_1 a0_0 x298001_1)) = some (r1, r2) := by rw [← hbq22] at H; exact H
       have Nbq22 := am hbq22; clear hbq22; by_cases c23 : bq22 = true
       ·subst c23
        have H1 : ((R2_lower.f x298001_1 x6_1 ((rd_T67 l1_1 x6_1).f1)).bind fun bt303 => (R2_MetZone.l0 k1 (wrap64 (x6_1 + 1)) a1_0 l1_1 a0_0 bt303.2)) = some (r1, r2) := by rw [if_pos rfl] at H; exact H
        clear H; have H := H1; clear H1; replace H := Option.bind_eq_some_iff.mp H; obtain ⟨⟨t303, t304⟩, A240, H⟩ := H; replace H : (R2_MetZone.l0 k1 (wrap64 (x6_1 + 1)) a1_0 l1_1 a0_0 t304) = some (r1, r2) := H; have A24 := am A240; clear A240; have H' := am H; clear H; have hnb25 := NB297_294.out; have hnc25 := NB294_297.out; have hnb26 := NB297_295.out; have hnc26 := NB295_297.out; have hnb27 := NB297_296.out; have hnc27 := NB296_297.out; have hcz28_0 : wr.cell? ⟨gb297, 0, none⟩ = some (.int .i64 a0_0) := bc BK297 0; have hcz28_1 : wr.cell? ⟨gb297, 1, none⟩ = some (u298001) := bc BK297 1; have hfz28_0 := blk_frozen BK297.out 0; have hfz28_1 := blk_frozen BK297.out 1; obtain ⟨Ao29, co29, eo29⟩ := Kd.R_slice HO_298001.out; subst eo29; have hnb30 := NB295_294.out; have hnc30 := NB294_295.out; have hnb31 := NB295_296.out; have hnc31 := NB296_295.out; have hcz32_0 : wr.cell? ⟨gb295, 0, none⟩ = some (.int .i64 a1_0) := bc BK295 0; have hcz32_1 : wr.cell? ⟨gb295, 1, none⟩ = some (.slice A1_1 l1_1.length c1_1) := bc BK295 1; have hfz32_0 := blk_frozen BK295.out 0; have hfz32_1 := blk_frozen BK295.out 1; have p301 : 0 ≤ (x6_1 : Int) := od; have q301 : x6_1 < (l1_1.length : Int) := od; obtain ⟨ad301, e301, hx301_0, hx301_1⟩ := at_T67 HR1_1.out x6_1 p301 q301; (try rw [← Nbq22.out] at hx301_0); cases e301; replace hx301_0 := (HB.out.cell (World.block_lt_of_cell? w _ hx301_0)).trans hx301_0; replace hx301_1 := (HB.out.cell (World.block_lt_of_cell? w _ hx301_1)).trans hx301_1; replace p301 := eq_true p301; replace q301 := eq_true q301
        try go_wp2
        have n0_ := am (Kd.R_drew HO_298001.out); have n1_ := am (blk_drew BK294.out); have n2_ := am (blk_drew BK295.out); have n3_ := am (blk_drew BK296.out); have n4_ := am (blk_drew BK297.out); have n5_ := am (below_drew1 HB.out); clear HO_298001 BK294 BK295 BK296 BK297 HB; revert n0_ n1_ n2_ n3_ n4_ n5_; intro HO_298001 BK294 BK295 BK296 BK297 HB; have p302 : 0 ≤ (x6_1 : Int) := od; have q302 : x6_1 < (l1_1.length : Int) := od; obtain ⟨ad302, e302, hx302_0, hx302_1⟩ := at_T67 HR1_1.out x6_1 p302 q302; have hw302_1 := hx302_1; have hw302_0 := hx302_0; (try rw [← Nbq22.out] at hx302_0); (try rw [← Nbq22.out] at hw302_0); obtain rfl : ad301 = ad302 := (by injection e302); replace hx302_0 := (HB.out.cell (World.block_lt_of_cell? w _ hx302_0)).trans hx302_0; replace hx302_1 := (HB.out.cell (World.block_lt_of_cell? w _ hx302_1)).trans hx302_1; replace p302 := eq_true p302; replace q302 := eq_true q302; refine start_ (n := 10) (S := fun w' => w'.cell? ⟨gb297, 0, none⟩ = some (.int .i64 a0_0) ∧ w'.cell? ⟨gb297, 1, none⟩ = some (.slice Ao29 x298001_1.length co29) ∧ w'.cell? ⟨gb295, 0, none⟩ = some (.int .i64 a1_0) ∧ w'.cell? ⟨gb295, 1, none⟩ = some (.slice (some ad301) l1_1.length c1_1) ∧ w'.cell? (ad301.add ((x6_1).toNat * 2)) = some (.bool (true)) ∧ w'.cell? ⟨(ad301.add ((x6_1).toNat * 2)).block, (ad301.add ((x6_1).toNat * 2)).off + 1, none⟩ = some (.int .i64 ((rd_T67 l1_1 x6_1).f1))) (ds := []) (bm 0 10) kk rfl rfl ⟨bc BK297 0, bc BK297 1, bc BK295 0, bc BK295 1, ((HB.out.cell (World.block_lt_of_cell? w _ hw302_0)).trans hw302_0), ((HB.out.cell (World.block_lt_of_cell? w _ hw302_1)).trans hw302_1)⟩ (fun hHeld => ?_); refine with_tabW R2_MetZone.tab7 R2_MetZone.bits7 (fun HT_ HW_ => ?_); generalize wr.drew = w33 at HO_298001 BK294 BK295 BK296 BK297 HB hx302_0 hx302_1 hHeld ⊢; refine pure_ (i := 0) (N := some 29) (v := ?_) (a' := ?_) (bm 1 10) rfl rfl (any_of HT_.out kk) (fun _ _ _ h => h) (Or.inl ⟨by rfl, ?_⟩) ?_ ?_; rotate_left; ·intro w'; go_simp; with_reducible rfl
        rotate_left; ·simp only [sp]; rfl
        refine pure_ (i := 2) (N := some 31) (v := ?_) (a' := ?_) #[true, false, true, false, false, false, false, false, false, false] rfl rfl (any_of HT_.out kk) (fun _ _ _ h => h) (Or.inl ⟨by rfl, ?_⟩) ?_ ?_; rotate_left; ·intro w'; go_simp; with_reducible rfl
        rotate_left; ·simp only [sp]; rfl
        refine pure_ (i := 3) (N := some 32) (v := ?_) (a' := ?_) #[true, false, true, true, false, false, false, false, false, false] rfl rfl (any_of HT_.out kk) (fun _ _ _ h => h) (Or.inl ⟨by rfl, ?_⟩) ?_ ?_; rotate_left; ·intro w'; go_simp; with_reducible rfl
        rotate_left; ·simp only [sp]; rfl
        refine pure_ (i := 5) (N := some 34) (v := ?_) (a' := ?_) #[true, false, true, true, false, true, false, false, false, false] rfl rfl (any_of HT_.out kk) (fun _ _ _ h => h) (Or.inl ⟨by rfl, ?_⟩) ?_ ?_; rotate_left; ·intro w'; go_simp; with_reducible rfl
        rotate_left; ·simp only [sp]; rfl
        refine take_ (i := 1) (N := some 30) (v := ?_) (a' := ?_) #[true, true, true, true, false, true, false, false, false, false] rfl rfl (take_ofW HT_.out HW_.out kk) (fun _ _ _ h => h) (Or.inl ⟨by rfl, ?_⟩) hHeld ?_ ?_; rotate_left; ·rintro w' ⟨s0, s1, s2, s3, s4, s5⟩; go_simp; with_reducible rfl
        rotate_left; ·simp only [sp]; rfl
        refine take_ (i := 4) (N := some 33) (v := ?_) (a' := ?_) (bm 6 10) rfl rfl (take_ofW HT_.out HW_.out kk) (fun _ _ _ h => h) (Or.inl ⟨by rfl, ?_⟩) hHeld ?_ ?_; rotate_left; ·rintro w' ⟨s0, s1, s2, s3, s4, s5⟩; go_simp; with_reducible rfl
        rotate_left; ·simp only [sp]; rfl
        refine pure_ (i := 6) (N := some 35) (v := ?_) (a' := ?_) (bm 7 10) rfl rfl (any_of HT_.out kk) (fun _ _ _ h => h) (Or.inl ⟨by rfl, ?_⟩) ?_ ?_; rotate_left; ·intro w'; go_simp; with_reducible rfl
        rotate_left; ·simp only [sp]; rfl
        refine pure_ (i := 7) (N := some 36) (v := ?_) (a' := ?_) (bm 8 10) rfl rfl (any_of HT_.out kk) (fun _ _ _ h => h) (Or.inl ⟨by rfl, ?_⟩) ?_ ?_; rotate_left; ·intro w'; go_simp; with_reducible rfl
        rotate_left; ·simp only [sp]; rfl
        refine take_ (i := 8) (N := some 37) (v := ?_) (a' := ?_) (bm 9 10) rfl rfl (take_ofW HT_.out HW_.out kk) (fun _ _ _ h => h) (Or.inl ⟨by rfl, ?_⟩) hHeld ?_ ?_; rotate_left; ·rintro w' ⟨s0, s1, s2, s3, s4, s5⟩; go_simp; with_reducible rfl
        rotate_left; ·simp only [sp]; rfl
        refine one_ (i := 9) (N := some 38) (bm 10 10) rfl rfl (one_of HT_.out kk) (by decide) (fun K hK => ?_); refine goes_ Tryd.func90 kk rfl #[.slice Ao29 x298001_1.length co29, .int .i64 x6_1, .int .i64 ((rd_T67 l1_1 x6_1).f1)] (by rfl) rfl rfl (by (try simp only [List.map_toArray, List.map_cons, List.map_nil]); first | done | rfl | (simp only [List.length_drop, List.length_take]; rfl)) ?_
        with_reducible refine (R2_lower.calls (fun k_ => some k_ = (.slice Ao29 x298001_1.length co29 : Value).ownBlock) (.slice Ao29 x298001_1.length co29) x298001_1 x6_1 ((rd_T67 l1_1 x6_1).f1) t303 t304 w _ ?side1 ?side2 A24.out).mono ?_
        (case side1 => repeat (first | (with_reducible first | exact HB.out | apply below_alloc | apply pw_below_drewN | apply below_drew1 | refine below_set ?_ GE294.out | refine below_set ?_ GE295.out | refine below_set ?_ GE296.out | refine below_set ?_ GE297.out) | exact HB.out))
        (case side2 => exact Kd.R_tight rfl HO_298001.out); rintro e w34 ⟨rfl, hy0, hb, hkp⟩; refine ⟨_, rfl, ?_⟩; have n0_ := am (Kd.R_reok rfl hy0 (fun k_ e_ => HO_298001.out.1 k_ e_)); have n1_ := am (blk_kept pk hkp (fun hs_ => (fun e_ => (Kd.R_ne HO_298001.out BK294.out (by decide)) e_) hs_)); have n2_ := am (blk_kept pk hkp (fun hs_ => (fun e_ => (Kd.R_ne HO_298001.out BK295.out (by decide)) e_) hs_)); have n3_ := am (blk_kept pk hkp (fun hs_ => (fun e_ => (Kd.R_ne HO_298001.out BK296.out (by decide)) e_) hs_)); have n4_ := am (blk_kept pk hkp (fun hs_ => (fun e_ => (Kd.R_ne HO_298001.out BK297.out (by decide)) e_) hs_)); have n5_ := am (hb); clear HO_298001 BK294 BK295 BK296 BK297 HB; revert n0_ n1_ n2_ n3_ n4_ n5_; intro HO_298001 BK294 BK295 BK296 BK297 HB; (try clear hb); (try clear hkp); (try clear hy0); refine hK.out _ _ ⟨bc BK297 0, bc BK297 1, bc BK295 0, bc BK295 1, ((HB.out.cell (World.block_lt_of_cell? w _ hw302_0)).trans hw302_0), ((HB.out.cell (World.block_lt_of_cell? w _ hw302_1)).trans hw302_1)⟩ (fun hHeld => ?_); clear hK K; refine norm_ (a' := ?_) ?_ ?_; rotate_left
        ·show Act.put _ (some 38) _ = _
         simp only [sp]; rfl
        refine done_ (done_of HT_.out kk) ?_; (try simp only [errW_none, errW_some])
        try go_wp2
        go_roundg k1
        case measure => have := HK1.out; omega
        case rel => exact ⟨(wrap64 (x6_1 + 1)), (t304), (.slice Ao29 x298001_1.length co29), pr, H', ⟨by have := HK1.out; omega⟩, ⟨by (with_reducible repeat (first | apply Kd.R_alloc | apply Kd.R_drewN | apply Kd.R_drew)); exact HO_298001.out⟩, ⟨pk⟩, ⟨pk⟩, ⟨pk⟩, ⟨pk⟩, ⟨pw⟩⟩
       replace c23 := Bool.eq_false_iff.mpr c23; subst c23
       have H1 : (R2_MetZone.l0 k1 (wrap64 (x6_1 + 1)) a1_0 l1_1 a0_0 x298001_1) = some (r1, r2) := by rw [if_neg (show ¬ (false = true) by decide)] at H; exact H
       clear H; have H := H1; clear H1; have H' := am H; clear H; have hnb35 := NB297_294.out; have hnc35 := NB294_297.out; have hnb36 := NB297_295.out; have hnc36 := NB295_297.out; have hnb37 := NB297_296.out; have hnc37 := NB296_297.out; have hcz38_0 : wr.cell? ⟨gb297, 0, none⟩ = some (.int .i64 a0_0) := bc BK297 0; have hcz38_1 : wr.cell? ⟨gb297, 1, none⟩ = some (u298001) := bc BK297 1; have hfz38_0 := blk_frozen BK297.out 0; have hfz38_1 := blk_frozen BK297.out 1; obtain ⟨Ao39, co39, eo39⟩ := Kd.R_slice HO_298001.out; subst eo39; have hnb40 := NB295_294.out; have hnc40 := NB294_295.out; have hnb41 := NB295_296.out; have hnc41 := NB296_295.out; have hcz42_0 : wr.cell? ⟨gb295, 0, none⟩ = some (.int .i64 a1_0) := bc BK295 0; have hcz42_1 : wr.cell? ⟨gb295, 1, none⟩ = some (.slice A1_1 l1_1.length c1_1) := bc BK295 1; have hfz42_0 := blk_frozen BK295.out 0; have hfz42_1 := blk_frozen BK295.out 1; have p301 : 0 ≤ (x6_1 : Int) := od; have q301 : x6_1 < (l1_1.length : Int) := od; obtain ⟨ad301, e301, hx301_0, hx301_1⟩ := at_T67 HR1_1.out x6_1 p301 q301; (try rw [← Nbq22.out] at hx301_0); cases e301; replace hx301_0 := (HB.out.cell (World.block_lt_of_cell? w _ hx301_0)).trans hx301_0; replace hx301_1 := (HB.out.cell (World.block_lt_of_cell? w _ hx301_1)).trans hx301_1; replace p301 := eq_true p301; replace q301 := eq_true q301; go_wp2; go_roundg k1
       case measure => have := HK1.out; omega
       case rel => exact ⟨(wrap64 (x6_1 + 1)), (x298001_1), (.slice Ao39 x298001_1.length co39), pr, H', ⟨by have := HK1.out; omega⟩, ⟨by (with_reducible repeat (first | apply Kd.R_alloc | apply Kd.R_drewN | apply Kd.R_drew)); exact HO_298001.out⟩, ⟨pk⟩, ⟨pk⟩, ⟨pk⟩, ⟨pk⟩, ⟨pw⟩⟩
      rw [if_neg c21] at H; exact absurd H (by simp)
     rw [if_neg c20] at H; exact absurd H (by simp)
    rw [if_neg c19] at H; have c19b0 : decide (x6_1 < (x298001_1.length : Int)) = false := decide_eq_false c19; clear c19; simp only [Option.some.injEq, Prod.mk.injEq] at H; obtain ⟨rfl, rfl⟩ := H; have hnb43 := NB297_294.out; have hnc43 := NB294_297.out; have hnb44 := NB297_295.out; have hnc44 := NB295_297.out; have hnb45 := NB297_296.out; have hnc45 := NB296_297.out; have hcz46_0 : wr.cell? ⟨gb297, 0, none⟩ = some (.int .i64 a0_0) := bc BK297 0; have hcz46_1 : wr.cell? ⟨gb297, 1, none⟩ = some (u298001) := bc BK297 1; have hfz46_0 := blk_frozen BK297.out 0; have hfz46_1 := blk_frozen BK297.out 1; obtain ⟨Ao47, co47, eo47⟩ := Kd.R_slice HO_298001.out; subst eo47; have hnb48 := NB296_294.out; have hnc48 := NB294_296.out; have hnb49 := NB296_295.out; have hnc49 := NB295_296.out; have hcz50_0 : wr.cell? ⟨gb296, 0, none⟩ = some (.int .i64 0) := bc BK296 0; have hcz50_1 : wr.cell? ⟨gb296, 1, none⟩ = some (.slice none 0 0) := bc BK296 1; have hfz50_0 := blk_frozen BK296.out 0; have hfz50_1 := blk_frozen BK296.out 1; go_wp2; refine bodyPost_ret (results_cell_row rfl _ _ gb296 24 #[.int .i64 a0_0, .slice Ao47 x298001_1.length co47] (0, 0) _ rfl (by (with_reducible repeat (first | refine blk_drewN ?_ _ | refine blk_drew ?_ | refine blk_alloc ?_ _)); refine blk_put (cs := #[.int .i64 a0_0, .slice none 0 0]) ?_ 1 _ rfl; (with_reducible repeat (first | refine blk_drewN ?_ _ | refine blk_drew ?_ | refine blk_alloc ?_ _)); refine blk_put (cs := #[.int .i64 0, .slice none 0 0]) ?_ 0 _ rfl; (with_reducible repeat (first | refine blk_drewN ?_ _ | refine blk_drew ?_ | refine blk_alloc ?_ _)); exact BK296.out) Tryd.underlying24 rfl kk) rfl ?_; exact ⟨_, pe, by (with_reducible repeat (first | apply Kd.R_alloc | apply Kd.R_drewN | apply Kd.R_drew)); exact Kd.R_mono (Kd.R_far (p := ⟨gb296, 1, none⟩) (Kd.R_far (p := ⟨gb296, 0, none⟩) (Kd.R_types HO_298001.out BK296.out (by decide)) (fun _ hk => hk.2) (.int .i64 a0_0)) (fun _ hk => hk.2) (.slice Ao47 x298001_1.length co47)) (fun _ hk => trivial), pw⟩
 rw [if_neg c3] at H
 exact absurd H (by simp)

/-! ### R2_ZoneIn: function 56 -/
def R2_ZoneIn.l0 : Nat → Int → Int → List (S67) → Int → List (S67) → Option (Bool)
 | 0, _, _, _, _, _ => none
 | k + 1, x7, x307000, x307001, x313000, x313001 => if x7 < (x313001.length : Int) then (if 0 ≤ x7 then (if x7 < (x307001.length : Int) then (if (rd_T67 x307001 x7).f0 = true then (if ((rd_T67 x313001 x7).f0 = true) then (if ((rd_T67 x313001 x7).f1) > ((rd_T67 x307001 x7).f1) then (some false) else (R2_ZoneIn.l0 k (wrap64 (x7 + 1)) x307000 x307001 x313000 x313001)) else (some false)) else (R2_ZoneIn.l0 k (wrap64 (x7 + 1)) x307000 x307001 x313000 x313001)) else (none)) else (none)) else (some true)
def R2_ZoneIn.f (k : Nat) (a0_0 : Int) (l0_1 : List (S67)) (a1_0 : Int) (l1_1 : List (S67)) : Option (Bool) := (R2_ClosedZone.f k a0_0 l0_1).bind fun bt307 => (if bt307.2.2 = true then (R2_ZoneIn.l0 k 0 a1_0 l1_1 bt307.1 bt307.2.1) else (some true))
theorem R2_ZoneIn.mono_l : ∀ k, (∀ y0 y1 y2 y3 y4, LeO (R2_ZoneIn.l0 k y0 y1 y2 y3 y4) (R2_ZoneIn.l0 (k + 1) y0 y1 y2 y3 y4))
 | 0 => fun _ _ _ _ _ r h => by simp [R2_ZoneIn.l0] at h
 | k + 1 => by
  have ih0 := R2_ZoneIn.mono_l k
  intro y0 y1 y2 y3 y4
  unfold R2_ZoneIn.l0
  repeat' first
  | (with_reducible exact ih0 _ _ _ _ _)
  | (with_reducible exact R2_ClosedZone.mono _ _ _)
  | (with_reducible exact LeO.refl _)
  | (with_reducible exact LeO.none _)
  | (with_reducible refine LeO.ite ?_ ?_)
  | (with_reducible refine LeO.bind ?_ (fun _ => ?_))
  | exact ih0 _ _ _ _ _
  | exact R2_ClosedZone.mono _ _ _
  | exact LeO.none _
  | refine LeO.ite ?_ ?_
  | refine LeO.bind ?_ (fun _ => ?_)
theorem R2_ZoneIn.mono : ∀ a0 a1 a2 a3 k, LeO (R2_ZoneIn.f k a0 a1 a2 a3) (R2_ZoneIn.f (k + 1) a0 a1 a2 a3) := by
 intro a0 a1 a2 a3 k
 have ih0 := R2_ZoneIn.mono_l k
 unfold R2_ZoneIn.f
 repeat' first
   | (with_reducible exact ih0 _ _ _ _ _)
   | (with_reducible exact R2_ClosedZone.mono _ _ _)
   | (with_reducible exact LeO.refl _)
   | (with_reducible exact LeO.none _)
   | (with_reducible refine LeO.ite ?_ ?_)
   | (with_reducible refine LeO.bind ?_ (fun _ => ?_))
   | exact ih0 _ _ _ _ _
   | exact R2_ClosedZone.mono _ _ _
   | exact LeO.none _
   | refine LeO.ite ?_ ?_
   | refine LeO.bind ?_ (fun _ => ?_)
set_option maxHeartbeats 8000000 in
set_option maxRecDepth 100000 in
theorem R2_ZoneIn.calls [EA] (k : Nat) (a0_0 : Int) (A0_1 : Option Addr) (c0_1 : Nat) (l0_1 : List (S67)) (a1_0 : Int) (A1_1 : Option Addr) (c1_1 : Nat) (l1_1 : List (S67)) (r : Bool) (w : World) (hr0_1 : Kd.C k67 w A0_1 l0_1.length l0_1) (hc0_1 : l0_1.length ≤ c0_1) (hr1_1 : Kd.C k67 w A1_1 l1_1.length l1_1) (hc1_1 : l1_1.length ≤ c1_1) (h : R2_ZoneIn.f k a0_0 l0_1 a1_0 l1_1 = some r) :
  Calls Tryd.prog 56 #[.agg #[.int .i64 a0_0, .slice A0_1 l0_1.length c0_1], .agg #[.int .i64 a1_0, .slice A1_1 l1_1.length c1_1]] w fun e w' => e = .returned (.bool r) ∧ Below w.heap.size w w' := by
 have hu24 := Tryd.underlying24
 have HR0_1 := am hr0_1
 have HC0_1 := am hc0_1
 clear hr0_1 hc0_1
 have HR1_1 := am hr1_1
 have HC1_1 := am hc1_1
 clear hr1_1 hc1_1
 have HB := am (Below.refl w.heap.size w)
 have H : ((R2_ClosedZone.f k a0_0 l0_1).bind fun bt307 => (if bt307.2.2 = true then (R2_ZoneIn.l0 k 0 a1_0 l1_1 bt307.1 bt307.2.1) else (some true))) = some r := h
 clear h
 replace H := Option.bind_eq_some_iff.mp H
 obtain ⟨⟨t307, t308, t311⟩, A30, H⟩ := H
 replace H : (if t311 = true then (R2_ZoneIn.l0 k 0 a1_0 l1_1 t307 t308) else (some true)) = some r := H
 have A3 := am A30
 clear A30
 by_cases c4 : t311 = true
 ·subst c4
  have H1 : (R2_ZoneIn.l0 k 0 a1_0 l1_1 t307 t308) = some r := by rw [if_pos rfl] at H; exact H
  clear H
  have H := H1
  clear H1
  have H' := am H
  clear H
  go_enter Tryd.func56, Tryd.ntmps56
  go_wp2_with (first | ((with_reducible refine gate_dst (N := 2) rfl ?_); refine box_event ?hg (N := 2) ?hd (cs := #[.int .i64 a0_0, .slice A0_1 l0_1.length c0_1]) (t := 24) ?hr ?_; (case hd => rfl); (case hg => rfl); (case hr => first | (go_simp; done) | (go_simp; rfl)); intro gb305 hg w5 hbox hb; have n0_ := am (below_step pw hb); have n1_ := am (hbox); have n2_ := am (sz (w := w) hg pw); have n3_ := am (sz (w := w) hg pw); clear HB; revert n0_ n1_ n2_ n3_; intro HB BK305 GW305 GE305; clear hb hbox hg) | ((with_reducible refine gate_dst (N := 3) rfl ?_); refine box_event ?hg (N := 3) ?hd (cs := #[.int .i64 a1_0, .slice A1_1 l1_1.length c1_1]) (t := 24) ?hr ?_; (case hd => rfl); (case hg => rfl); (case hr => first | (go_simp; done) | (go_simp; rfl)); intro gb306 hg w6 hbox hb; have n0_ := bb BK305 hb; have n1_ := am (below_step pw hb); have n2_ := am (hbox); have n3_ := am (sz (w := w) hg pw); have n4_ := am (sz (w := w) hg pw); have n5_ := am (nl BK305 hg); have n6_ := am ((nl BK305 hg).symm); clear BK305 HB; revert n0_ n1_ n2_ n3_ n4_ n5_ n6_; intro BK305 HB BK306 GW306 GE306 NB305_306 NB306_305; clear hb hbox hg; have hnb7 := NB305_306.out; have hnc7 := NB306_305.out; have hcz8_0 : w6.cell? ⟨gb305, 0, none⟩ = some (.int .i64 a0_0) := bc BK305 0; have hcz8_1 : w6.cell? ⟨gb305, 1, none⟩ = some (.slice A0_1 l0_1.length c0_1) := bc BK305 1; have hfz8_0 := blk_frozen BK305.out 0; have hfz8_1 := blk_frozen BK305.out 1) | (go_at_call 26; (with_reducible refine (R2_ClosedZone.calls k a0_0 _ _ l0_1 t307 t308 true _ ?side1 ?side2 A3.out).mono ?_); (case side1 => repeat (first | exact (Kd.C_below HR0_1.out HB.out) | (with_reducible refine Kd.C_alloc ?_ _) | (with_reducible refine Kd.C_drewN ?_ _) | (with_reducible refine Kd.C_drew ?_))); (case side2 => exact HC0_1.out); rintro e w9 ⟨v309, rfl, ho0, hb⟩; have n0_ := am (Kd.R_lower ho0 (below_size pw)); have n1_ := bb BK305 hb; have n2_ := bb BK306 hb; have n3_ := am (below_step pw hb); clear BK305 BK306 HB; revert n0_ n1_ n2_ n3_; intro HO310 BK305 BK306 HB; (try clear hb); (try clear hb2); (try clear hk); (try clear hi); (try clear ho0)) | ((with_reducible refine gate_dst (N := 5) rfl ?_); refine box_event ?hg (N := 5) ?hd (cs := #[.int .i64 0, .slice none 0 0]) (t := 24) ?hr ?_; (case hd => rfl); (case hg => rfl); (case hr => first | (go_simp; done) | (go_simp; rfl)); intro gb312 hg w10 hbox hb; have n0_ := am (Kd.R_below (rk HO310) hb); have n1_ := bb BK305 hb; have n2_ := bb BK306 hb; have n3_ := am (below_step pw hb); have n4_ := am (hbox); have n5_ := am (sz (w := w) hg pw); have n6_ := am (sz (w := w) hg pw); have n7_ := am (nl BK305 hg); have n8_ := am ((nl BK305 hg).symm); have n9_ := am (nl BK306 hg); have n10_ := am ((nl BK306 hg).symm); clear HO310 BK305 BK306 HB; revert n0_ n1_ n2_ n3_ n4_ n5_ n6_ n7_ n8_ n9_ n10_; intro HO310 BK305 BK306 HB BK312 GW312 GE312 NB305_312 NB312_305 NB306_312 NB312_306; clear hb hbox hg; have hnb11 := NB312_305.out; have hnc11 := NB305_312.out; have hnb12 := NB312_306.out; have hnc12 := NB306_312.out; have hcz13_0 : w10.cell? ⟨gb312, 0, none⟩ = some (.int .i64 0) := bc BK312 0; have hcz13_1 : w10.cell? ⟨gb312, 1, none⟩ = some (.slice none 0 0) := bc BK312 1; have hfz13_0 := blk_frozen BK312.out 0; have hfz13_1 := blk_frozen BK312.out 1; obtain ⟨Ao14, co14, eo14⟩ := Kd.R_slice HO310.out; subst eo14))
  go_loopg [7] k (fun kq v7 w' => ∃ (x7_1 : Int), v7 = .int .i64 x7_1 ∧ Aside0 (R2_ZoneIn.l0 kq x7_1 a1_0 l1_1 t307 t308 = some r) ∧ Aside0 (kq ≤ k) ∧ Aside0 (Kd.R k67 67 w' w.heap.size (fun _ => True) (.slice Ao14 t308.length co14) t308) ∧ Aside0 (w'.heap[gb305]? = some (.cells #[.int .i64 a0_0, (.slice A0_1 l0_1.length c0_1)] 24 (0, 0))) ∧ Aside0 (w'.heap[gb306]? = some (.cells #[.int .i64 a1_0, (.slice A1_1 l1_1.length c1_1)] 24 (0, 0))) ∧ Aside0 (w'.heap[gb312]? = some (.cells #[.int .i64 t307, (.slice Ao14 t308.length co14)] 24 (0, 0))) ∧ Aside0 (Below w.heap.size w w'))
  case atStart => exact ⟨(0), pr, H', ⟨Nat.le_refl _⟩, ⟨by (with_reducible repeat (first | apply Kd.R_alloc | apply Kd.R_drewN | apply Kd.R_drew)); exact Kd.R_mono (Kd.R_far (p := ⟨gb312, 1, none⟩) (Kd.R_far (p := ⟨gb312, 0, none⟩) (Kd.R_types HO310.out BK312.out (by decide)) (fun _ hk => hk.2) (.int .i64 t307)) (fun _ hk => hk.2) (.slice Ao14 t308.length co14)) (fun _ hk => trivial)⟩, ⟨by (with_reducible repeat (first | refine blk_drewN ?_ _ | refine blk_drew ?_ | refine blk_alloc ?_ _)); refine blk_far ?_ NB305_312.out _; (with_reducible repeat (first | refine blk_drewN ?_ _ | refine blk_drew ?_ | refine blk_alloc ?_ _)); refine blk_far ?_ NB305_312.out _; (with_reducible repeat (first | refine blk_drewN ?_ _ | refine blk_drew ?_ | refine blk_alloc ?_ _)); exact BK305.out⟩, ⟨by (with_reducible repeat (first | refine blk_drewN ?_ _ | refine blk_drew ?_ | refine blk_alloc ?_ _)); refine blk_far ?_ NB306_312.out _; (with_reducible repeat (first | refine blk_drewN ?_ _ | refine blk_drew ?_ | refine blk_alloc ?_ _)); refine blk_far ?_ NB306_312.out _; (with_reducible repeat (first | refine blk_drewN ?_ _ | refine blk_drew ?_ | refine blk_alloc ?_ _)); exact BK306.out⟩, ⟨by (with_reducible repeat (first | refine blk_drewN ?_ _ | refine blk_drew ?_ | refine blk_alloc ?_ _)); refine blk_put (cs := #[.int .i64 t307, .slice none 0 0]) ?_ 1 _ rfl; (with_reducible repeat (first | refine blk_drewN ?_ _ | refine blk_drew ?_ | refine blk_alloc ?_ _)); refine blk_put (cs := #[.int .i64 0, .slice none 0 0]) ?_ 0 _ rfl; (with_reducible repeat (first | refine blk_drewN ?_ _ | refine blk_drew ?_ | refine blk_alloc ?_ _)); exact BK312.out⟩, ⟨pw⟩⟩
  case round =>
   clear H'; (try clear c1); (try clear p2); (try clear c4); (try clear c5); (try clear c7); (try clear c11); (try clear c12); (try clear hcz13_0); (try clear hcz13_1); (try clear hcz8_0); (try clear hcz8_1); (try clear hfz13_0); (try clear hfz13_1); (try clear hfz8_0); (try clear hfz8_1); obtain ⟨x7_1, rfl, HA, HK1, HO_313001, BK305, BK306, BK312, HB⟩ := hrel; cases gk with
   | zero => exact absurd HA.out (by simp [R2_ZoneIn.l0])
   | succ k1 =>
    have H := HA.out; clear HA; simp only [R2_ZoneIn.l0] at H; by_cases c15 : x7_1 < (t308.length : Int)
    ·rw [if_pos c15] at H
     have c15b0 : decide (x7_1 < (t308.length : Int)) = true := decide_eq_true c15; clear c15; by_cases c16 : 0 ≤ x7_1
     ·rw [if_pos c16] at H
      have c16b0 : decide (0 ≤ x7_1) = true := decide_eq_true c16; clear c16; by_cases c17 : x7_1 < (l1_1.length : Int)
      ·rw [if_pos c17] at H
       have c17b0 : decide (x7_1 < (l1_1.length : Int)) = true := decide_eq_true c17; clear c17; obtain ⟨bq18, hbq18⟩ : ∃ b_ : Bool, b_ = ((rd_T67 l1_1 x7_1).f0) := ⟨_, rfl⟩
       replace H : (if bq18 = true then (if ((rd_T67 t308 x7_1).f0 = true) then (if ((rd_T67 t308 x7_1).f1) > ((rd_T67 l1_1 x7_1).f1) then (some false) else (R2_ZoneIn.l0 k1 (wrap64 (x7_1 + 1)) a1_0 l1_1 t307 t308)) else (some false)) else (R2_ZoneIn.l0 k1 (wrap64 (x7_1 + 1)) a1_0 l1_1 t307 t308)) = some r := by rw [← hbq18] at H; exact H
       have Nbq18 := am hbq18; clear hbq18; by_cases c19 : bq18 = true
       ·subst c19
        have H1 : (if ((rd_T67 t308 x7_1).f0 = true) then (if ((rd_T67 t308 x7_1).f1) > ((rd_T67 l1_1 x7_1).f1) then (some false) else (R2_ZoneIn.l0 k1 (wrap64 (x7_1 + 1)) a1_0 l1_1 t307 t308)) else (some false)) = some r := by rw [if_pos rfl] at H; exact H
        clear H; have H := H1; clear H1; obtain ⟨bq20, hbq20⟩ : ∃ b_ : Bool, b_ = ((rd_T67 t308 x7_1).f0) := ⟨_, rfl⟩
        replace H : (if (bq20 = true) then (if ((rd_T67 t308 x7_1).f1) > ((rd_T67 l1_1 x7_1).f1) then (some false) else (R2_ZoneIn.l0 k1 (wrap64 (x7_1 + 1)) a1_0 l1_1 t307 t308)) else (some false)) = some r := by rw [← hbq20] at H; exact H
        have Nbq20 := am hbq20; clear hbq20; by_cases c21 : (bq20 = true)
        ·subst c21
         have H1 : (if ((rd_T67 t308 x7_1).f1) > ((rd_T67 l1_1 x7_1).f1) then (some false) else (R2_ZoneIn.l0 k1 (wrap64 (x7_1 + 1)) a1_0 l1_1 t307 t308)) = some r := by rw [if_pos rfl] at H; exact H
         clear H; have H := H1; clear H1; by_cases c22 : ((rd_T67 t308 x7_1).f1) > ((rd_T67 l1_1 x7_1).f1)
         ·rw [if_pos c22] at H
          have c22b0 : decide (((rd_T67 l1_1 x7_1).f1) < ((rd_T67 t308 x7_1).f1)) = true := decide_eq_true c22; clear c22; obtain rfl := Option.some.inj H; have hnb23 := NB312_305.out; have hnc23 := NB305_312.out; have hnb24 := NB312_306.out; have hnc24 := NB306_312.out; have hcz25_0 : wr.cell? ⟨gb312, 0, none⟩ = some (.int .i64 t307) := bc BK312 0; have hcz25_1 : wr.cell? ⟨gb312, 1, none⟩ = some (.slice Ao14 t308.length co14) := bc BK312 1; have hfz25_0 := blk_frozen BK312.out 0; have hfz25_1 := blk_frozen BK312.out 1; have hnb26 := NB306_305.out; have hnc26 := NB305_306.out; have hcz27_0 : wr.cell? ⟨gb306, 0, none⟩ = some (.int .i64 a1_0) := bc BK306 0; have hcz27_1 : wr.cell? ⟨gb306, 1, none⟩ = some (.slice A1_1 l1_1.length c1_1) := bc BK306 1; have hfz27_0 := blk_frozen BK306.out 0; have hfz27_1 := blk_frozen BK306.out 1; have p313 : 0 ≤ (x7_1 : Int) := od; have q313 : x7_1 < (l1_1.length : Int) := od; obtain ⟨ad313, e313, hx313_0, hx313_1⟩ := at_T67 HR1_1.out x7_1 p313 q313; (try rw [← Nbq18.out] at hx313_0); (try rw [← Nbq20.out] at hx313_0); cases e313; replace hx313_0 := (HB.out.cell (World.block_lt_of_cell? w _ hx313_0)).trans hx313_0; replace hx313_1 := (HB.out.cell (World.block_lt_of_cell? w _ hx313_1)).trans hx313_1; replace p313 := eq_true p313; replace q313 := eq_true q313; have p314 : 0 ≤ (x7_1 : Int) := od; have q314 : x7_1 < (t308.length : Int) := od; obtain ⟨ad314, e314, hx314_0, hx314_1⟩ := at_T67 (Kd.R_reads' HO_313001.out).2.2 x7_1 p314 q314; (try rw [← Nbq18.out] at hx314_0); (try rw [← Nbq20.out] at hx314_0); cases e314; replace p314 := eq_true p314; replace q314 := eq_true q314; have p315 : 0 ≤ (x7_1 : Int) := od; have q315 : x7_1 < (t308.length : Int) := od; obtain ⟨ad315, e315, hx315_0, hx315_1⟩ := at_T67 (Kd.R_reads' HO_313001.out).2.2 x7_1 p315 q315; (try rw [← Nbq18.out] at hx315_0); (try rw [← Nbq20.out] at hx315_0); obtain rfl : ad314 = ad315 := (by injection e315); replace p315 := eq_true p315; replace q315 := eq_true q315; have p316 : 0 ≤ (x7_1 : Int) := od; have q316 : x7_1 < (l1_1.length : Int) := od; obtain ⟨ad316, e316, hx316_0, hx316_1⟩ := at_T67 HR1_1.out x7_1 p316 q316; (try rw [← Nbq18.out] at hx316_0); (try rw [← Nbq20.out] at hx316_0); obtain rfl : ad313 = ad316 := (by injection e316); replace hx316_0 := (HB.out.cell (World.block_lt_of_cell? w _ hx316_0)).trans hx316_0; replace hx316_1 := (HB.out.cell (World.block_lt_of_cell? w _ hx316_1)).trans hx316_1; replace p316 := eq_true p316; replace q316 := eq_true q316; go_wp2
          repeat (go_quiet (fail); try go_wp2)
          go_ret; exact ⟨pe, pw⟩
         rw [if_neg c22] at H; have c22b0 : decide (((rd_T67 l1_1 x7_1).f1) < ((rd_T67 t308 x7_1).f1)) = false := decide_eq_false c22; clear c22; have H' := am H; clear H; have hnb28 := NB312_305.out; have hnc28 := NB305_312.out; have hnb29 := NB312_306.out; have hnc29 := NB306_312.out; have hcz30_0 : wr.cell? ⟨gb312, 0, none⟩ = some (.int .i64 t307) := bc BK312 0; have hcz30_1 : wr.cell? ⟨gb312, 1, none⟩ = some (.slice Ao14 t308.length co14) := bc BK312 1; have hfz30_0 := blk_frozen BK312.out 0; have hfz30_1 := blk_frozen BK312.out 1; have hnb31 := NB306_305.out; have hnc31 := NB305_306.out; have hcz32_0 : wr.cell? ⟨gb306, 0, none⟩ = some (.int .i64 a1_0) := bc BK306 0; have hcz32_1 : wr.cell? ⟨gb306, 1, none⟩ = some (.slice A1_1 l1_1.length c1_1) := bc BK306 1; have hfz32_0 := blk_frozen BK306.out 0; have hfz32_1 := blk_frozen BK306.out 1; have p313 : 0 ≤ (x7_1 : Int) := od; have q313 : x7_1 < (l1_1.length : Int) := od; obtain ⟨ad313, e313, hx313_0, hx313_1⟩ := at_T67 HR1_1.out x7_1 p313 q313; (try rw [← Nbq18.out] at hx313_0); (try rw [← Nbq20.out] at hx313_0); cases e313; replace hx313_0 := (HB.out.cell (World.block_lt_of_cell? w _ hx313_0)).trans hx313_0; replace hx313_1 := (HB.out.cell (World.block_lt_of_cell? w _ hx313_1)).trans hx313_1; replace p313 := eq_true p313; replace q313 := eq_true q313; have p314 : 0 ≤ (x7_1 : Int) := od; have q314 : x7_1 < (t308.length : Int) := od; obtain ⟨ad314, e314, hx314_0, hx314_1⟩ := at_T67 (Kd.R_reads' HO_313001.out).2.2 x7_1 p314 q314; (try rw [← Nbq18.out] at hx314_0); (try rw [← Nbq20.out] at hx314_0); cases e314; replace p314 := eq_true p314; replace q314 := eq_true q314; have p315 : 0 ≤ (x7_1 : Int) := od; have q315 : x7_1 < (t308.length : Int) := od; obtain ⟨ad315, e315, hx315_0, hx315_1⟩ := at_T67 (Kd.R_reads' HO_313001.out).2.2 x7_1 p315 q315; (try rw [← Nbq18.out] at hx315_0); (try rw [← Nbq20.out] at hx315_0); obtain rfl : ad314 = ad315 := (by injection e315); replace p315 := eq_true p315; replace q315 := eq_true q315; have p316 : 0 ≤ (x7_1 : Int) := od; have q316 : x7_1 < (l1_1.length : Int) := od; obtain ⟨ad316, e316, hx316_0, hx316_1⟩ := at_T67 HR1_1.out x7_1 p316 q316; (try rw [← Nbq18.out] at hx316_0); (try rw [← Nbq20.out] at hx316_0); obtain rfl : ad313 = ad316 := (by injection e316); replace hx316_0 := (HB.out.cell (World.block_lt_of_cell? w _ hx316_0)).trans hx316_0; replace hx316_1 := (HB.out.cell (World.block_lt_of_cell? w _ hx316_1)).trans hx316_1; replace p316 := eq_true p316; replace q316 := eq_true q316; go_wp2
         repeat (go_quiet (fail); try go_wp2)
         go_roundg k1
         case measure => have := HK1.out; omega
         case rel => exact ⟨(wrap64 (x7_1 + 1)), pr, H', ⟨by have := HK1.out; omega⟩, ⟨by (with_reducible repeat (first | apply Kd.R_alloc | apply Kd.R_drewN | apply Kd.R_drew)); exact HO_313001.out⟩, ⟨pk⟩, ⟨pk⟩, ⟨pk⟩, ⟨pw⟩⟩
        replace c21 := Bool.eq_false_iff.mpr c21; subst c21
        have H1 : (some false) = some r := by rw [if_neg (show ¬ (false = true) by decide)] at H; exact H
        clear H; have H := H1; clear H1; obtain rfl := Option.some.inj H; have hnb33 := NB312_305.out; have hnc33 := NB305_312.out; have hnb34 := NB312_306.out; have hnc34 := NB306_312.out; have hcz35_0 : wr.cell? ⟨gb312, 0, none⟩ = some (.int .i64 t307) := bc BK312 0; have hcz35_1 : wr.cell? ⟨gb312, 1, none⟩ = some (.slice Ao14 t308.length co14) := bc BK312 1; have hfz35_0 := blk_frozen BK312.out 0; have hfz35_1 := blk_frozen BK312.out 1; have hnb36 := NB306_305.out; have hnc36 := NB305_306.out; have hcz37_0 : wr.cell? ⟨gb306, 0, none⟩ = some (.int .i64 a1_0) := bc BK306 0; have hcz37_1 : wr.cell? ⟨gb306, 1, none⟩ = some (.slice A1_1 l1_1.length c1_1) := bc BK306 1; have hfz37_0 := blk_frozen BK306.out 0; have hfz37_1 := blk_frozen BK306.out 1; have p313 : 0 ≤ (x7_1 : Int) := od; have q313 : x7_1 < (l1_1.length : Int) := od; obtain ⟨ad313, e313, hx313_0, hx313_1⟩ := at_T67 HR1_1.out x7_1 p313 q313; (try rw [← Nbq18.out] at hx313_0); (try rw [← Nbq20.out] at hx313_0); cases e313; replace hx313_0 := (HB.out.cell (World.block_lt_of_cell? w _ hx313_0)).trans hx313_0; replace hx313_1 := (HB.out.cell (World.block_lt_of_cell? w _ hx313_1)).trans hx313_1; replace p313 := eq_true p313; replace q313 := eq_true q313; have p314 : 0 ≤ (x7_1 : Int) := od; have q314 : x7_1 < (t308.length : Int) := od; obtain ⟨ad314, e314, hx314_0, hx314_1⟩ := at_T67 (Kd.R_reads' HO_313001.out).2.2 x7_1 p314 q314; (try rw [← Nbq18.out] at hx314_0); (try rw [← Nbq20.out] at hx314_0); cases e314; replace p314 := eq_true p314; replace q314 := eq_true q314; go_wp2
        repeat (go_quiet (fail); try go_wp2)
        go_ret; exact ⟨pe, pw⟩
       replace c19 := Bool.eq_false_iff.mpr c19; subst c19
       have H1 : (R2_ZoneIn.l0 k1 (wrap64 (x7_1 + 1)) a1_0 l1_1 t307 t308) = some r := by rw [if_neg (show ¬ (false = true) by decide)] at H; exact H
       clear H; have H := H1; clear H1; have H' := am H; clear H; have hnb38 := NB312_305.out; have hnc38 := NB305_312.out; have hnb39 := NB312_306.out; have hnc39 := NB306_312.out; have hcz40_0 : wr.cell? ⟨gb312, 0, none⟩ = some (.int .i64 t307) := bc BK312 0; have hcz40_1 : wr.cell? ⟨gb312, 1, none⟩ = some (.slice Ao14 t308.length co14) := bc BK312 1; have hfz40_0 := blk_frozen BK312.out 0; have hfz40_1 := blk_frozen BK312.out 1; have hnb41 := NB306_305.out; have hnc41 := NB305_306.out; have hcz42_0 : wr.cell? ⟨gb306, 0, none⟩ = some (.int .i64 a1_0) := bc BK306 0; have hcz42_1 : wr.cell? ⟨gb306, 1, none⟩ = some (.slice A1_1 l1_1.length c1_1) := bc BK306 1; have hfz42_0 := blk_frozen BK306.out 0; have hfz42_1 := blk_frozen BK306.out 1; have p313 : 0 ≤ (x7_1 : Int) := od; have q313 : x7_1 < (l1_1.length : Int) := od; obtain ⟨ad313, e313, hx313_0, hx313_1⟩ := at_T67 HR1_1.out x7_1 p313 q313; (try rw [← Nbq18.out] at hx313_0); cases e313; replace hx313_0 := (HB.out.cell (World.block_lt_of_cell? w _ hx313_0)).trans hx313_0; replace hx313_1 := (HB.out.cell (World.block_lt_of_cell? w _ hx313_1)).trans hx313_1; replace p313 := eq_true p313; replace q313 := eq_true q313; go_wp2
       repeat (go_quiet (fail); try go_wp2)
       go_roundg k1
       case measure => have := HK1.out; omega
       case rel => exact ⟨(wrap64 (x7_1 + 1)), pr, H', ⟨by have := HK1.out; omega⟩, ⟨by (with_reducible repeat (first | apply Kd.R_alloc | apply Kd.R_drewN | apply Kd.R_drew)); exact HO_313001.out⟩, ⟨pk⟩, ⟨pk⟩, ⟨pk⟩, ⟨pw⟩⟩
      rw [if_neg c17] at H; exact absurd H (by simp)
     rw [if_neg c16] at H; exact absurd H (by simp)
    rw [if_neg c15] at H; have c15b0 : decide (x7_1 < (t308.length : Int)) = false := decide_eq_false c15; clear c15; obtain rfl := Option.some.inj H; have hnb43 := NB312_305.out; have hnc43 := NB305_312.out; have hnb44 := NB312_306.out; have hnc44 := NB306_312.out; have hcz45_0 : wr.cell? ⟨gb312, 0, none⟩ = some (.int .i64 t307) := bc BK312 0; have hcz45_1 : wr.cell? ⟨gb312, 1, none⟩ = some (.slice Ao14 t308.length co14) := bc BK312 1; have hfz45_0 := blk_frozen BK312.out 0; have hfz45_1 := blk_frozen BK312.out 1; go_wp2
    repeat (go_quiet (fail); try go_wp2)
    go_ret; exact ⟨pe, pw⟩
 replace c4 := Bool.eq_false_iff.mpr c4
 subst c4
 have H1 : (some true) = some r := by rw [if_neg (show ¬ (false = true) by decide)] at H; exact H
 clear H
 have H := H1
 clear H1
 obtain rfl := Option.some.inj H
 go_enter Tryd.func56, Tryd.ntmps56
 go_wp2_with (first | ((with_reducible refine gate_dst (N := 2) rfl ?_); refine box_event ?hg (N := 2) ?hd (cs := #[.int .i64 a0_0, .slice A0_1 l0_1.length c0_1]) (t := 24) ?hr ?_; (case hd => rfl); (case hg => rfl); (case hr => first | (go_simp; done) | (go_simp; rfl)); intro gb305 hg w46 hbox hb; have n0_ := am (below_step pw hb); have n1_ := am (hbox); have n2_ := am (sz (w := w) hg pw); have n3_ := am (sz (w := w) hg pw); clear HB; revert n0_ n1_ n2_ n3_; intro HB BK305 GW305 GE305; clear hb hbox hg) | ((with_reducible refine gate_dst (N := 3) rfl ?_); refine box_event ?hg (N := 3) ?hd (cs := #[.int .i64 a1_0, .slice A1_1 l1_1.length c1_1]) (t := 24) ?hr ?_; (case hd => rfl); (case hg => rfl); (case hr => first | (go_simp; done) | (go_simp; rfl)); intro gb306 hg w47 hbox hb; have n0_ := bb BK305 hb; have n1_ := am (below_step pw hb); have n2_ := am (hbox); have n3_ := am (sz (w := w) hg pw); have n4_ := am (sz (w := w) hg pw); have n5_ := am (nl BK305 hg); have n6_ := am ((nl BK305 hg).symm); clear BK305 HB; revert n0_ n1_ n2_ n3_ n4_ n5_ n6_; intro BK305 HB BK306 GW306 GE306 NB305_306 NB306_305; clear hb hbox hg; have hnb48 := NB305_306.out; have hnc48 := NB306_305.out; have hcz49_0 : w47.cell? ⟨gb305, 0, none⟩ = some (.int .i64 a0_0) := bc BK305 0; have hcz49_1 : w47.cell? ⟨gb305, 1, none⟩ = some (.slice A0_1 l0_1.length c0_1) := bc BK305 1; have hfz49_0 := blk_frozen BK305.out 0; have hfz49_1 := blk_frozen BK305.out 1) | (go_at_call 26; (with_reducible refine (R2_ClosedZone.calls k a0_0 _ _ l0_1 t307 t308 false _ ?side1 ?side2 A3.out).mono ?_); (case side1 => repeat (first | exact (Kd.C_below HR0_1.out HB.out) | (with_reducible refine Kd.C_alloc ?_ _) | (with_reducible refine Kd.C_drewN ?_ _) | (with_reducible refine Kd.C_drew ?_))); (case side2 => exact HC0_1.out); rintro e w50 ⟨v309, rfl, ho0, hb⟩; have n0_ := am (Kd.R_lower ho0 (below_size pw)); have n1_ := bb BK305 hb; have n2_ := bb BK306 hb; have n3_ := am (below_step pw hb); clear BK305 BK306 HB; revert n0_ n1_ n2_ n3_; intro HO310 BK305 BK306 HB; (try clear hb); (try clear hb2); (try clear hk); (try clear hi); (try clear ho0)) | ((with_reducible refine gate_dst (N := 5) rfl ?_); refine box_event ?hg (N := 5) ?hd (cs := #[.int .i64 0, .slice none 0 0]) (t := 24) ?hr ?_; (case hd => rfl); (case hg => rfl); (case hr => first | (go_simp; done) | (go_simp; rfl)); intro gb312 hg w51 hbox hb; have n0_ := am (Kd.R_below (rk HO310) hb); have n1_ := bb BK305 hb; have n2_ := bb BK306 hb; have n3_ := am (below_step pw hb); have n4_ := am (hbox); have n5_ := am (sz (w := w) hg pw); have n6_ := am (sz (w := w) hg pw); have n7_ := am (nl BK305 hg); have n8_ := am ((nl BK305 hg).symm); have n9_ := am (nl BK306 hg); have n10_ := am ((nl BK306 hg).symm); clear HO310 BK305 BK306 HB; revert n0_ n1_ n2_ n3_ n4_ n5_ n6_ n7_ n8_ n9_ n10_; intro HO310 BK305 BK306 HB BK312 GW312 GE312 NB305_312 NB312_305 NB306_312 NB312_306; clear hb hbox hg; have hnb52 := NB312_305.out; have hnc52 := NB305_312.out; have hnb53 := NB312_306.out; have hnc53 := NB306_312.out; have hcz54_0 : w51.cell? ⟨gb312, 0, none⟩ = some (.int .i64 0) := bc BK312 0; have hcz54_1 : w51.cell? ⟨gb312, 1, none⟩ = some (.slice none 0 0) := bc BK312 1; have hfz54_0 := blk_frozen BK312.out 0; have hfz54_1 := blk_frozen BK312.out 1; obtain ⟨Ao55, co55, eo55⟩ := Kd.R_slice HO310.out; subst eo55))
 go_ret
 exact ⟨pe, pw⟩

end Go.Proofs.YtcalcnfppnbooaaDoor.Z
