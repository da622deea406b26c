import Derived.Test.YtcalcnfppnbooaaDoorZwSp
import Derived.Test.YtcalcnfppnbooaaDoorZwEb
import Derived.Test.YtcalcnfppnbooaaDoorZwZ0
import Derived.Test.YtcalcnfppnbooaaDoorZwZ4
-- Written by wip/xprint.py (the session's program over the kit's print).
namespace Go.Proofs.YtcalcnfppnbooaaDoor.Z
open Go.RowKit Go.Proofs.YtcalcnfppnbooaaDoorW.PrintWords Go.Proofs.YtcalcnfppnbooaaDoorW.PrintLast Go.Proofs.YtcalcnfppnbooaaDoorW.PrintMore Go.Proofs.Rcg
attribute [local go_sem] max2_int min2_int max_two min_two max_three min_three max_four min_four   -- for this text's walks alone
set_option linter.unusedVariables false
set_option linter.unusedSimpArgs false

/-! ### L2_zoneOf: function 17 -/
def L2_zoneOf.l0 : Nat → Int → Int → List (S67) → Int → List (S120) → Option (Int × (List (S120)))
 | 0, _, _, _, _, _ => none
 | k + 1, x4, x152000, x152001, x154000, x154001 => if x4 < (x152001.length : Int) then (if 0 ≤ x4 then (if x154001.length < 8796093022208 then (L2_zoneOf.l0 k (wrap64 (x4 + 1)) x152000 x152001 x154000 (x154001 ++ [(⟨(rd_T67 x152001 x4).f0, (rd_T67 x152001 x4).f1⟩ : S120)])) else (none)) else (none)) else (some (x154000, x154001))
def L2_zoneOf.f (k : Nat) (a0_0 : Int) (l0_1 : List (S67)) : Option (Int × (List (S120))) := L2_zoneOf.l0 k 0 a0_0 l0_1 a0_0 ([] : List (S120))
theorem L2_zoneOf.mono_l : ∀ k, (∀ y0 y1 y2 y3 y4, LeO (L2_zoneOf.l0 k y0 y1 y2 y3 y4) (L2_zoneOf.l0 (k + 1) y0 y1 y2 y3 y4))
 | 0 => fun _ _ _ _ _ r h => by simp [L2_zoneOf.l0] at h
 | k + 1 => by
  have ih0 := L2_zoneOf.mono_l k
  intro y0 y1 y2 y3 y4
  unfold L2_zoneOf.l0
  repeat' first
  | (with_reducible exact ih0 _ _ _ _ _)
  | (with_reducible exact LeO.refl _)
  | (with_reducible exact LeO.none _)
  | (with_reducible refine LeO.ite ?_ ?_)
  | (with_reducible refine LeO.bind ?_ (fun _ => ?_))
  | exact ih0 _ _ _ _ _
  | exact LeO.none _
  | refine LeO.ite ?_ ?_
  | refine LeO.bind ?_ (fun _ => ?_)
theorem L2_zoneOf.mono : ∀ a0 a1 k, LeO (L2_zoneOf.f k a0 a1) (L2_zoneOf.f (k + 1) a0 a1) := by
 intro a0 a1 k
 have ih0 := L2_zoneOf.mono_l k
 unfold L2_zoneOf.f
 repeat' first
   | (with_reducible exact ih0 _ _ _ _ _)
   | (with_reducible exact LeO.refl _)
   | (with_reducible exact LeO.none _)
   | (with_reducible refine LeO.ite ?_ ?_)
   | (with_reducible refine LeO.bind ?_ (fun _ => ?_))
   | exact ih0 _ _ _ _ _
   | exact LeO.none _
   | refine LeO.ite ?_ ?_
   | refine LeO.bind ?_ (fun _ => ?_)
def L2_zoneOf.T5 : Bool × List (List Nat × List Nat) := (true, [([], []), ([0], [0]), ([], []), ([2], [2]), ([], []), ([3, 4], [3, 4]), ([5], [5]), ([6], [6]), ([], []), ([8], [8]), ([], []), ([9, 10], [9, 10]), ([11], [11]), ([12], [12]), ([7, 13], [7, 13]), ([14], [14]), ([1, 15], [1, 15]), ([0, 1, 2, 3, 4, 5, 6, 7, 8, 9, 10, 11, 12, 13, 14, 15, 16], []), ([17, 16, 16, 0, 1, 2, 3, 4, 5, 6, 7, 8, 9, 10, 11, 12, 13, 14, 15, 16], [16, 17])])
def L2_zoneOf.B5 : List Nat := [0, 1, 0, 4, 0, 28, 60, 124, 0, 256, 0, 1792, 3840, 7936, 16380, 32764, 65535, 131071, 262143]
theorem L2_zoneOf.tab5 : rtab .any (opsOf Tryd.f17 5) = L2_zoneOf.T5 := by kernel_rfl
theorem L2_zoneOf.bits5 : waitsOk L2_zoneOf.T5.2 L2_zoneOf.B5 = true := by kernel_rfl
set_option maxHeartbeats 8000000 in
set_option maxRecDepth 100000 in
theorem L2_zoneOf.calls [EA] (k : Nat) (a0_0 : Int) (A0_1 : Option Addr) (c0_1 : Nat) (l0_1 : List (S67)) (r1 : Int) (r2 : List (S120)) (w : World) (hr0_1 : Kd.C k67 w A0_1 l0_1.length l0_1) (hc0_1 : l0_1.length ≤ c0_1) (h : L2_zoneOf.f k a0_0 l0_1 = some (r1, r2)) :
  Calls Tryd.prog 17 #[.agg #[.int .i64 a0_0, .slice A0_1 l0_1.length c0_1]] w fun e w' => ∃ v1_ : Value, e = .returned (.agg #[.int .i64 r1, v1_]) ∧ Kd.R k120 120 w' w.heap.size (fun _ => True) v1_ r2 ∧ Below w.heap.size w w' := by
 have hu24 := Tryd.underlying24
 have hu30 := Tryd.underlying30
 have hu120 := Tryd.underlying120
 have HR0_1 := am hr0_1
 have HC0_1 := am hc0_1
 clear hr0_1 hc0_1
 have HB := am (Below.refl w.heap.size w)
 have H : (L2_zoneOf.l0 k 0 a0_0 l0_1 a0_0 ([] : List (S120))) = some (r1, r2) := h
 clear h
 have H' := am H
 clear H
 go_enter Tryd.func17, Tryd.ntmps17
 go_wp2_with (first | ((with_reducible refine gate_dst (N := 1) rfl ?_); refine box_event ?hg (N := 1) ?hd (cs := #[.int .i64 a0_0, .slice A0_1 l0_1.length c0_1]) (t := 24) ?hr ?_; (case hd => rfl); (case hg => rfl); (case hr => first | (go_simp; done) | (go_simp; rfl)); intro gb151 hg w2 hbox hb; have n0_ := am (below_step pw hb); have n1_ := am (hbox); have n2_ := am (sz (w := w) hg pw); have n3_ := am (sz (w := w) hg pw); clear HB; revert n0_ n1_ n2_ n3_; intro HB BK151 GW151 GE151; clear hb hbox hg) | ((with_reducible refine gate_dst (N := 2) rfl ?_); refine box_event ?hg (N := 2) ?hd (cs := #[.int .i64 0, .slice none 0 0]) (t := 30) ?hr ?_; (case hd => rfl); (case hg => rfl); (case hr => first | (go_simp; done) | (go_simp; rfl)); intro gb152 hg w3 hbox hb; have n0_ := bb BK151 hb; have n1_ := am (below_step pw hb); have n2_ := am (hbox); have n3_ := am (sz (w := w) hg pw); have n4_ := am (sz (w := w) hg pw); have n5_ := am (nl BK151 hg); have n6_ := am ((nl BK151 hg).symm); clear BK151 HB; revert n0_ n1_ n2_ n3_ n4_ n5_ n6_; intro BK151 HB BK152 GW152 GE152 NB151_152 NB152_151; clear hb hbox hg; have hnb4 := NB151_152.out; have hnc4 := NB152_151.out; have hcz5_0 : w3.cell? ⟨gb151, 0, none⟩ = some (.int .i64 a0_0) := bc BK151 0; have hcz5_1 : w3.cell? ⟨gb151, 1, none⟩ = some (.slice A0_1 l0_1.length c0_1) := bc BK151 1; have hfz5_0 := blk_frozen BK151.out 0; have hfz5_1 := blk_frozen BK151.out 1) | ((with_reducible refine gate_dst (N := 3) rfl ?_); refine box_event ?hg (N := 3) ?hd (cs := #[.int .i64 0, .slice none 0 0]) (t := 30) ?hr ?_; (case hd => rfl); (case hg => rfl); (case hr => first | (go_simp; done) | (go_simp; rfl)); intro gb153 hg w6 hbox hb; have n0_ := bb BK151 hb; have n1_ := bb BK152 hb; have n2_ := am (below_step pw hb); have n3_ := am (hbox); have n4_ := am (sz (w := w) hg pw); have n5_ := am (sz (w := w) hg pw); have n6_ := am (nl BK151 hg); have n7_ := am ((nl BK151 hg).symm); have n8_ := am (nl BK152 hg); have n9_ := am ((nl BK152 hg).symm); clear BK151 BK152 HB; revert n0_ n1_ n2_ n3_ n4_ n5_ n6_ n7_ n8_ n9_; intro BK151 BK152 HB BK153 GW153 GE153 NB151_153 NB153_151 NB152_153 NB153_152; clear hb hbox hg; have hnb7 := NB153_151.out; have hnc7 := NB151_153.out; have hnb8 := NB153_152.out; have hnc8 := NB152_153.out; have hcz9_0 : w6.cell? ⟨gb153, 0, none⟩ = some (.int .i64 0) := bc BK153 0; have hcz9_1 : w6.cell? ⟨gb153, 1, none⟩ = some (.slice none 0 0) := bc BK153 1; have hfz9_0 := blk_frozen BK153.out 0; have hfz9_1 := blk_frozen BK153.out 1))
 go_loopg [4] k (fun kq v4 w' => ∃ (x4_1 : Int) (x154001_1 : List (S120)) (u154001 : Value), v4 = .int .i64 x4_1 ∧ Aside0 (L2_zoneOf.l0 kq x4_1 a0_0 l0_1 a0_0 x154001_1 = some (r1, r2)) ∧ Aside0 (kq ≤ k) ∧ Aside0 (Kd.R k120 120 w' w.heap.size (fun _ => True) u154001 x154001_1) ∧ Aside0 (w'.heap[gb151]? = some (.cells #[.int .i64 a0_0, (.slice A0_1 l0_1.length c0_1)] 24 (0, 0))) ∧ Aside0 (w'.heap[gb152]? = some (.cells #[.int .i64 0, (.slice none 0 0)] 30 (0, 0))) ∧ Aside0 (w'.heap[gb153]? = some (.cells #[.int .i64 a0_0, u154001] 30 (0, 0))) ∧ Aside0 (Below w.heap.size w w'))
 case atStart => exact ⟨(0), (([] : List (S120))), (.slice none 0 0), pr, H', ⟨Nat.le_refl _⟩, ⟨by first | exact Kd.R_nil _ _ _ _ _ | exact Kd.N_nil _ _ _ _ _ | exact Kd.V_nil _ _ _ _ _ | exact Kd.Q_nil _ _ _ _ _ | exact Kd.S_nil _ _ _ _ _⟩, ⟨by (with_reducible repeat (first | refine blk_drewN ?_ _ | refine blk_drew ?_ | refine blk_alloc ?_ _)); refine blk_far ?_ NB151_153.out _; (with_reducible repeat (first | refine blk_drewN ?_ _ | refine blk_drew ?_ | refine blk_alloc ?_ _)); refine blk_far ?_ NB151_153.out _; (with_reducible repeat (first | refine blk_drewN ?_ _ | refine blk_drew ?_ | refine blk_alloc ?_ _)); exact BK151.out⟩, ⟨by (with_reducible repeat (first | refine blk_drewN ?_ _ | refine blk_drew ?_ | refine blk_alloc ?_ _)); refine blk_far ?_ NB152_153.out _; (with_reducible repeat (first | refine blk_drewN ?_ _ | refine blk_drew ?_ | refine blk_alloc ?_ _)); refine blk_far ?_ NB152_153.out _; (with_reducible repeat (first | refine blk_drewN ?_ _ | refine blk_drew ?_ | refine blk_alloc ?_ _)); exact BK152.out⟩, ⟨by (with_reducible repeat (first | refine blk_drewN ?_ _ | refine blk_drew ?_ | refine blk_alloc ?_ _)); refine blk_put (cs := #[.int .i64 a0_0, .slice none 0 0]) ?_ 1 _ rfl; (with_reducible repeat (first | refine blk_drewN ?_ _ | refine blk_drew ?_ | refine blk_alloc ?_ _)); refine blk_put (cs := #[.int .i64 0, .slice none 0 0]) ?_ 0 _ rfl; (with_reducible repeat (first | refine blk_drewN ?_ _ | refine blk_drew ?_ | refine blk_alloc ?_ _)); exact BK153.out⟩, ⟨pw⟩⟩
 case round =>
  clear H'
  (try clear c1)
  (try clear p2)
  (try clear c4)
  (try clear c7)
  (try clear c8)
  (try clear hcz5_0)
  (try clear hcz5_1)
  (try clear hcz9_0)
  (try clear hcz9_1)
  (try clear hfz5_0)
  (try clear hfz5_1)
  (try clear hfz9_0)
  (try clear hfz9_1)
  obtain ⟨x4_1, x154001_1, u154001, rfl, HA, HK1, HO_154001, BK151, BK152, BK153, HB⟩ := hrel
  cases gk with
  | zero => exact absurd HA.out (by simp [L2_zoneOf.l0])
  | succ k1 =>
   have H := HA.out; clear HA; simp only [L2_zoneOf.l0] at H; by_cases c10 : x4_1 < (l0_1.length : Int)
   ·rw [if_pos c10] at H
    have c10b0 : decide (x4_1 < (l0_1.length : Int)) = true := decide_eq_true c10; clear c10; by_cases c11 : 0 ≤ x4_1
    ·rw [if_pos c11] at H
     have c11b0 : decide (0 ≤ x4_1) = true := decide_eq_true c11; clear c11; by_cases c12 : x154001_1.length < 8796093022208
     ·rw [if_pos c12] at H
      have LMc12 := am c12; clear c12; obtain ⟨y156, hy156⟩ : ∃ y_ : List (S120), y_ = (x154001_1 ++ [(⟨(rd_T67 l0_1 x4_1).f0, (rd_T67 l0_1 x4_1).f1⟩ : S120)]) := ⟨_, rfl⟩
      replace H : (L2_zoneOf.l0 k1 (wrap64 (x4_1 + 1)) a0_0 l0_1 a0_0 y156) = some (r1, r2) := by first | (rw [hy156]; with_reducible exact H) | (have H2_ := (Option.bind_some _ _).symm.trans H; rw [hy156]; with_reducible exact H2_) | (have H2_ := (Option.bind_some _ _).symm.trans H; with_reducible exact H2_) | with_reducible exact H | (rw [hy156]; exact H) | exact H
      have Ny156 := am hy156; clear hy156; have H' := am H; clear H; have hnb13 := NB151_152.out; have hnc13 := NB152_151.out; have hnb14 := NB151_153.out; have hnc14 := NB153_151.out; have hcz15_0 : wr.cell? ⟨gb151, 0, none⟩ = some (.int .i64 a0_0) := bc BK151 0; have hcz15_1 : wr.cell? ⟨gb151, 1, none⟩ = some (.slice A0_1 l0_1.length c0_1) := bc BK151 1; have hfz15_0 := blk_frozen BK151.out 0; have hfz15_1 := blk_frozen BK151.out 1
      try go_wp2
      have n0_ := am (Kd.R_drew HO_154001.out); have n1_ := am (blk_drew BK151.out); have n2_ := am (blk_drew BK152.out); have n3_ := am (blk_drew BK153.out); have n4_ := am (below_drew1 HB.out); clear HO_154001 BK151 BK152 BK153 HB; revert n0_ n1_ n2_ n3_ n4_; intro HO_154001 BK151 BK152 BK153 HB; have p154 : 0 ≤ (x4_1 : Int) := od; have q154 : x4_1 < (l0_1.length : Int) := od; obtain ⟨ad154, e154, hx154_0, hx154_1⟩ := at_T67 HR0_1.out x4_1 p154 q154; have hw154_1 := hx154_1; have hw154_0 := hx154_0; cases e154; replace hx154_0 := (HB.out.cell (World.block_lt_of_cell? w _ hx154_0)).trans hx154_0; replace hx154_1 := (HB.out.cell (World.block_lt_of_cell? w _ hx154_1)).trans hx154_1; replace p154 := eq_true p154; replace q154 := eq_true q154; have p155 : 0 ≤ (x4_1 : Int) := od; have q155 : x4_1 < (l0_1.length : Int) := od; obtain ⟨ad155, e155, hx155_0, hx155_1⟩ := at_T67 HR0_1.out x4_1 p155 q155; have hw155_1 := hx155_1; have hw155_0 := hx155_0; obtain rfl : ad154 = ad155 := (by injection e155); replace hx155_0 := (HB.out.cell (World.block_lt_of_cell? w _ hx155_0)).trans hx155_0; replace hx155_1 := (HB.out.cell (World.block_lt_of_cell? w _ hx155_1)).trans hx155_1; replace p155 := eq_true p155; replace q155 := eq_true q155; refine start_ (n := 19) (S := fun w' => w'.cell? ⟨gb153, 0, none⟩ = some (.int .i64 a0_0) ∧ w'.cell? ⟨gb153, 1, none⟩ = some (u154001) ∧ w'.cell? ⟨gb151, 0, none⟩ = some (.int .i64 a0_0) ∧ w'.cell? ⟨gb151, 1, none⟩ = some (.slice (some ad154) l0_1.length c0_1) ∧ w'.cell? (ad154.add ((x4_1).toNat * 2)) = some (.bool ((rd_T67 l0_1 x4_1).f0)) ∧ w'.cell? ⟨(ad154.add ((x4_1).toNat * 2)).block, (ad154.add ((x4_1).toNat * 2)).off + 1, none⟩ = some (.int .i64 ((rd_T67 l0_1 x4_1).f1)) ∧ w'.cell? (ad154.add ((x4_1).toNat * 2)) = some (.bool ((rd_T67 l0_1 x4_1).f0)) ∧ w'.cell? ⟨(ad154.add ((x4_1).toNat * 2)).block, (ad154.add ((x4_1).toNat * 2)).off + 1, none⟩ = some (.int .i64 ((rd_T67 l0_1 x4_1).f1))) (ds := [18]) (bm 0 19) kk rfl rfl ⟨bc BK153 0, bc BK153 1, bc BK151 0, bc BK151 1, ((HB.out.cell (World.block_lt_of_cell? w _ hw154_0)).trans hw154_0), ((HB.out.cell (World.block_lt_of_cell? w _ hw154_1)).trans hw154_1), ((HB.out.cell (World.block_lt_of_cell? w _ hw155_0)).trans hw155_0), ((HB.out.cell (World.block_lt_of_cell? w _ hw155_1)).trans hw155_1)⟩ (fun hHeld => ?_); refine with_tabW L2_zoneOf.tab5 L2_zoneOf.bits5 (fun HT_ HW_ => ?_); generalize wr.drew = w16 at HO_154001 BK151 BK152 BK153 HB hx154_0 hx154_1 hx155_0 hx155_1 hHeld ⊢; refine pure_ (i := 0) (N := some 15) (v := ?_) (a' := ?_) (bm 1 19) rfl rfl (any_of HT_.out kk) (fun _ _ _ h => h) (Or.inl ⟨by rfl, ?_⟩) ?_ ?_; rotate_left; ·intro w'; go_simp; with_reducible rfl
      rotate_left; ·simp only [sp]; rfl
      refine pure_ (i := 2) (N := some 17) (v := ?_) (a' := ?_) #[true, false, true, false, false, false, false, false, false, false, false, false, false, false, false, false, false, false, false] rfl rfl (any_of HT_.out kk) (fun _ _ _ h => h) (Or.inl ⟨by rfl, ?_⟩) ?_ ?_; rotate_left; ·intro w'; go_simp; with_reducible rfl
      rotate_left; ·simp only [sp]; rfl
      refine pure_ (i := 4) (N := some 19) (v := ?_) (a' := ?_) #[true, false, true, false, true, false, false, false, false, false, false, false, false, false, false, false, false, false, false] rfl rfl (any_of HT_.out kk) (fun _ _ _ h => h) (Or.inl ⟨by rfl, ?_⟩) ?_ ?_; rotate_left; ·intro w'; go_simp; with_reducible rfl
      rotate_left; ·simp only [sp]; rfl
      refine pure_ (i := 8) (N := some 23) (v := ?_) (a' := ?_) #[true, false, true, false, true, false, false, false, true, false, false, false, false, false, false, false, false, false, false] rfl rfl (any_of HT_.out kk) (fun _ _ _ h => h) (Or.inl ⟨by rfl, ?_⟩) ?_ ?_; rotate_left; ·intro w'; go_simp; with_reducible rfl
      rotate_left; ·simp only [sp]; rfl
      refine pure_ (i := 10) (N := some 25) (v := ?_) (a' := ?_) #[true, false, true, false, true, false, false, false, true, false, true, false, false, false, false, false, false, false, false] rfl rfl (any_of HT_.out kk) (fun _ _ _ h => h) (Or.inl ⟨by rfl, ?_⟩) ?_ ?_; rotate_left; ·intro w'; go_simp; with_reducible rfl
      rotate_left; ·simp only [sp]; rfl
      refine take_ (i := 1) (N := some 16) (v := ?_) (a' := ?_) #[true, true, true, false, true, false, false, false, true, false, true, false, false, false, false, false, false, false, false] rfl rfl (take_ofW HT_.out HW_.out kk) (fun _ _ _ h => h) (Or.inl ⟨by rfl, ?_⟩) hHeld ?_ ?_; rotate_left; ·rintro w' ⟨s0, s1, s2, s3, s4, s5, s6, s7⟩; go_simp; with_reducible rfl
      rotate_left; ·simp only [sp]; rfl
      refine take_ (i := 3) (N := some 18) (v := ?_) (a' := ?_) #[true, true, true, true, true, false, false, false, true, false, true, false, false, false, false, false, false, false, false] rfl rfl (take_ofW HT_.out HW_.out kk) (fun _ _ _ h => h) (Or.inl ⟨by rfl, ?_⟩) hHeld ?_ ?_; rotate_left; ·rintro w' ⟨s0, s1, s2, s3, s4, s5, s6, s7⟩; go_simp; with_reducible rfl
      rotate_left; ·simp only [sp]; rfl
      refine pure_ (i := 5) (N := some 20) (v := ?_) (a' := ?_) #[true, true, true, true, true, true, false, false, true, false, true, false, false, false, false, false, false, false, false] rfl rfl (any_of HT_.out kk) (fun _ _ _ h => h) (Or.inl ⟨by rfl, ?_⟩) ?_ ?_; rotate_left; ·intro w'; go_simp; with_reducible rfl
      rotate_left; ·simp only [sp]; rfl
      refine pure_ (i := 6) (N := some 21) (v := ?_) (a' := ?_) #[true, true, true, true, true, true, true, false, true, false, true, false, false, false, false, false, false, false, false] rfl rfl (any_of HT_.out kk) (fun _ _ _ h => h) (Or.inl ⟨by rfl, ?_⟩) ?_ ?_; rotate_left; ·intro w'; go_simp; with_reducible rfl
      rotate_left; ·simp only [sp]; rfl
      refine take_ (i := 7) (N := some 22) (v := ?_) (a' := ?_) #[true, true, true, true, true, true, true, true, true, false, true, false, false, false, false, false, false, false, false] rfl rfl (take_ofW HT_.out HW_.out kk) (fun _ _ _ h => h) (Or.inl ⟨by rfl, ?_⟩) hHeld ?_ ?_; rotate_left; ·rintro w' ⟨s0, s1, s2, s3, s4, s5, s6, s7⟩; go_simp; with_reducible rfl
      rotate_left; ·simp only [sp]; rfl
      refine take_ (i := 9) (N := some 24) (v := ?_) (a' := ?_) (bm 11 19) rfl rfl (take_ofW HT_.out HW_.out kk) (fun _ _ _ h => h) (Or.inl ⟨by rfl, ?_⟩) hHeld ?_ ?_; rotate_left; ·rintro w' ⟨s0, s1, s2, s3, s4, s5, s6, s7⟩; go_simp; with_reducible rfl
      rotate_left; ·simp only [sp]; rfl
      refine pure_ (i := 11) (N := some 26) (v := ?_) (a' := ?_) (bm 12 19) rfl rfl (any_of HT_.out kk) (fun _ _ _ h => h) (Or.inl ⟨by rfl, ?_⟩) ?_ ?_; rotate_left; ·intro w'; go_simp; with_reducible rfl
      rotate_left; ·simp only [sp]; rfl
      refine pure_ (i := 12) (N := some 27) (v := ?_) (a' := ?_) (bm 13 19) rfl rfl (any_of HT_.out kk) (fun _ _ _ h => h) (Or.inl ⟨by rfl, ?_⟩) ?_ ?_; rotate_left; ·intro w'; go_simp; with_reducible rfl
      rotate_left; ·simp only [sp]; rfl
      refine take_ (i := 13) (N := some 28) (v := ?_) (a' := ?_) (bm 14 19) rfl rfl (take_ofW HT_.out HW_.out kk) (fun _ _ _ h => h) (Or.inl ⟨by rfl, ?_⟩) hHeld ?_ ?_; rotate_left; ·rintro w' ⟨s0, s1, s2, s3, s4, s5, s6, s7⟩; go_simp; with_reducible rfl
      rotate_left; ·simp only [sp]; rfl
      refine pure_ (i := 14) (N := some 29) (v := ?_) (a' := ?_) (bm 15 19) rfl rfl (any_of HT_.out kk) (fun _ _ _ h => h) (Or.inl ⟨by rfl, ?_⟩) ?_ ?_; rotate_left; ·intro w'; go_simp; with_reducible rfl
      rotate_left; ·simp only [sp]; rfl
      refine one_ (i := 15) (N := some 30) (bm 16 19) rfl rfl (one_of HT_.out kk) (by decide) (fun K hK => ?_); refine value_ (w1 := ?_) (v := ?_) (by rfl) rfl ?_ ?_; rotate_left 2
      ·go_simp
       constructor
       ·rfl
       rfl
      refine hK.out _ _ ⟨(blk_cell (blk_alloc BK153.out _) 0).trans rfl, (blk_cell (blk_alloc BK153.out _) 1).trans rfl, (blk_cell (blk_alloc BK151.out _) 0).trans rfl, (blk_cell (blk_alloc BK151.out _) 1).trans rfl, (World.cell?_alloc_lt _ _ _ (World.block_lt_of_cell? _ _ (((HB.out.cell (World.block_lt_of_cell? w _ hw154_0)).trans hw154_0)))).trans (((HB.out.cell (World.block_lt_of_cell? w _ hw154_0)).trans hw154_0)), (World.cell?_alloc_lt _ _ _ (World.block_lt_of_cell? _ _ (((HB.out.cell (World.block_lt_of_cell? w _ hw154_1)).trans hw154_1)))).trans (((HB.out.cell (World.block_lt_of_cell? w _ hw154_1)).trans hw154_1)), (World.cell?_alloc_lt _ _ _ (World.block_lt_of_cell? _ _ (((HB.out.cell (World.block_lt_of_cell? w _ hw155_0)).trans hw155_0)))).trans (((HB.out.cell (World.block_lt_of_cell? w _ hw155_0)).trans hw155_0)), (World.cell?_alloc_lt _ _ _ (World.block_lt_of_cell? _ _ (((HB.out.cell (World.block_lt_of_cell? w _ hw155_1)).trans hw155_1)))).trans (((HB.out.cell (World.block_lt_of_cell? w _ hw155_1)).trans hw155_1))⟩ (fun hHeld => ?_); clear hK K; refine norm_ (a' := ?_) ?_ ?_; rotate_left
      ·show Act.put _ (some 30) _ = _
       simp only [sp]; rfl
      refine one_ (i := 16) (N := some 31) (bm 17 19) rfl rfl (one_of HT_.out kk) (by decide) (fun K hK => ?_); refine Kd.R_append_step k120 (w0 := w) w.heap.size (by rfl) (.tmp 16) (.tmp 30) 28 120 (.agg #[(.bool false), (.int .i64 0)]) 16 rfl Tryd.underlying28 info120 rfl (by decide) (by omega) u154001 x154001_1 (⟨(rd_T67 l0_1 x4_1).f0, (rd_T67 l0_1 x4_1).f1⟩ : S120) [.bool ((rd_T67 l0_1 x4_1).f0), .int .i64 ((rd_T67 l0_1 x4_1).f1)] (fun _ => True) (fun _ => False) rfl rfl ?aP (fun _ hk => hk.elim) ?aF ?aO ?aB ?aS ?aL ?_
      (case aP => exact k120_mkM _ _ _ (⟨(rd_T67 l0_1 x4_1).f0, (rd_T67 l0_1 x4_1).f1⟩ : S120))
      (case aB => exact pw)
      (case aF => exact (fun _ _ => trivial))
      (case aO => exact (rk HO_154001))
      (case aS => exact (below_size pw))
      (case aL => have := LMc12.out; omega); intro v157 w17 ho hb hg hat; rw [← Ny156.out] at ho; have n0_ := am (blk_grown (g := gb151) (o := .cells #[.int .i64 a0_0, .slice (some ad154) l0_1.length c0_1] 24 (0, 0)) pk hg (Kd.R_ne HO_154001.out BK151.out (by decide))); have n1_ := am (blk_grown (g := gb152) (o := .cells #[.int .i64 0, .slice none 0 0] 30 (0, 0)) pk hg (Kd.R_ne HO_154001.out BK152.out (by decide))); have n2_ := am (blk_grown (g := gb153) (o := .cells #[.int .i64 a0_0, u154001] 30 (0, 0)) pk hg (Kd.R_ne HO_154001.out BK153.out (by decide))); have n3_ := am (hb); have n4_ := am (ho); clear BK151 BK152 BK153 HB HO_154001; revert n0_ n1_ n2_ n3_ n4_; intro BK151 BK152 BK153 HB HO158; clear ho hb hg hat; obtain ⟨Ao18, co18, eo18⟩ := Kd.R_slice HO158.out; (first | subst eo18 | (injection eo18 with f1_ f2_ f3_; have f4_ := f1_.symm; have f5_ := f3_.symm; clear f1_ f2_ f3_; subst f4_; subst f5_)); refine hK.out _ _ ⟨bc BK153 0, bc BK153 1, bc BK151 0, bc BK151 1, ((HB.out.cell (World.block_lt_of_cell? w _ hw154_0)).trans hw154_0), ((HB.out.cell (World.block_lt_of_cell? w _ hw154_1)).trans hw154_1), ((HB.out.cell (World.block_lt_of_cell? w _ hw155_0)).trans hw155_0), ((HB.out.cell (World.block_lt_of_cell? w _ hw155_1)).trans hw155_1)⟩ (fun hHeld => ?_); clear hK K; refine norm_ (a' := ?_) ?_ ?_; rotate_left
      ·show Act.put _ (some 31) _ = _
       simp only [sp]; rfl
      refine pure_ (i := 17) (N := some 32) (v := ?_) (a' := ?_) (bm 18 19) rfl rfl (any_of HT_.out kk) (fun _ _ _ h => h) (Or.inl ⟨by rfl, ?_⟩) ?_ ?_; rotate_left; ·intro w'; go_simp; with_reducible rfl
      rotate_left; ·simp only [sp]; rfl
      refine last_ (i := 18) (N := none) (bm 19 19) rfl rfl (one_of HT_.out kk) (by decide) (fun K hK => ?_); have hs19 : w17.cell? ⟨gb153, 1, none⟩ = some (u154001) := bc BK153 1; have hfs19 := blk_frozen BK153.out 1; have hns19_0 := NB151_153.out; have hns19_1 := NB152_153.out; have hms19_0 := NB153_151.out; have hms19_1 := NB153_152.out; refine skip_ (w1 := ?_) (by rfl) rfl ?_ ?_; rotate_left
      ·go_simp
       rfl
      refine hK.out _ _ ?_; clear hK K; refine done_ (done_of HT_.out kk) ?_; (try simp only [errW_none, errW_some])
      try go_wp2
      go_roundg k1
      case measure => have := HK1.out; omega
      case rel => exact ⟨(wrap64 (x4_1 + 1)), (y156), (.slice Ao18 y156.length co18), pr, H', ⟨by have := HK1.out; omega⟩, ⟨by (with_reducible repeat (first | apply Kd.R_alloc | apply Kd.R_drewN | apply Kd.R_drew)); exact Kd.R_mono (Kd.R_far (p := ⟨gb153, 1, none⟩) (Kd.R_types HO158.out BK153.out (by decide)) (fun _ hk => hk.2) (.slice Ao18 y156.length co18)) (fun _ hk => trivial)⟩, ⟨by (with_reducible repeat (first | refine blk_drewN ?_ _ | refine blk_drew ?_ | refine blk_alloc ?_ _)); refine blk_far ?_ NB151_153.out _; (with_reducible repeat (first | refine blk_drewN ?_ _ | refine blk_drew ?_ | refine blk_alloc ?_ _)); exact BK151.out⟩, ⟨by (with_reducible repeat (first | refine blk_drewN ?_ _ | refine blk_drew ?_ | refine blk_alloc ?_ _)); refine blk_far ?_ NB152_153.out _; (with_reducible repeat (first | refine blk_drewN ?_ _ | refine blk_drew ?_ | refine blk_alloc ?_ _)); exact BK152.out⟩, ⟨by (with_reducible repeat (first | refine blk_drewN ?_ _ | refine blk_drew ?_ | refine blk_alloc ?_ _)); refine blk_put (cs := #[.int .i64 a0_0, u154001]) ?_ 1 _ rfl; (with_reducible repeat (first | refine blk_drewN ?_ _ | refine blk_drew ?_ | refine blk_alloc ?_ _)); exact BK153.out⟩, ⟨pw⟩⟩
     rw [if_neg c12] at H; exact absurd H (by simp)
    rw [if_neg c11] at H; exact absurd H (by simp)
   rw [if_neg c10] at H; have c10b0 : decide (x4_1 < (l0_1.length : Int)) = false := decide_eq_false c10; clear c10; simp only [Option.some.injEq, Prod.mk.injEq] at H; obtain ⟨rfl, rfl⟩ := H; have hnb20 := NB151_152.out; have hnc20 := NB152_151.out; have hnb21 := NB151_153.out; have hnc21 := NB153_151.out; have hcz22_0 : wr.cell? ⟨gb151, 0, none⟩ = some (.int .i64 a0_0) := bc BK151 0; have hcz22_1 : wr.cell? ⟨gb151, 1, none⟩ = some (.slice A0_1 l0_1.length c0_1) := bc BK151 1; have hfz22_0 := blk_frozen BK151.out 0; have hfz22_1 := blk_frozen BK151.out 1; have hnb23 := NB153_152.out; have hnc23 := NB152_153.out; have hcz24_0 : wr.cell? ⟨gb153, 0, none⟩ = some (.int .i64 a0_0) := bc BK153 0; have hcz24_1 : wr.cell? ⟨gb153, 1, none⟩ = some (u154001) := bc BK153 1; have hfz24_0 := blk_frozen BK153.out 0; have hfz24_1 := blk_frozen BK153.out 1; have hcz25_0 : wr.cell? ⟨gb152, 0, none⟩ = some (.int .i64 0) := bc BK152 0; have hcz25_1 : wr.cell? ⟨gb152, 1, none⟩ = some (.slice none 0 0) := bc BK152 1; have hfz25_0 := blk_frozen BK152.out 0; have hfz25_1 := blk_frozen BK152.out 1; obtain ⟨Ao26, co26, eo26⟩ := Kd.R_slice HO_154001.out; subst eo26; go_wp2; refine bodyPost_ret (results_cell_row rfl _ _ gb152 30 #[.int .i64 a0_0, .slice Ao26 x154001_1.length co26] (0, 0) _ rfl (by (with_reducible repeat (first | refine blk_drewN ?_ _ | refine blk_drew ?_ | refine blk_alloc ?_ _)); refine blk_put (cs := #[.int .i64 a0_0, .slice none 0 0]) ?_ 1 _ rfl; (with_reducible repeat (first | refine blk_drewN ?_ _ | refine blk_drew ?_ | refine blk_alloc ?_ _)); refine blk_put (cs := #[.int .i64 0, .slice none 0 0]) ?_ 0 _ rfl; (with_reducible repeat (first | refine blk_drewN ?_ _ | refine blk_drew ?_ | refine blk_alloc ?_ _)); exact BK152.out) Tryd.underlying30 rfl kk) rfl ?_; exact ⟨_, pe, by (with_reducible repeat (first | apply Kd.R_alloc | apply Kd.R_drewN | apply Kd.R_drew)); exact Kd.R_mono (Kd.R_far (p := ⟨gb152, 1, none⟩) (Kd.R_far (p := ⟨gb152, 0, none⟩) (Kd.R_types HO_154001.out BK152.out (by decide)) (fun _ hk => hk.2) (.int .i64 a0_0)) (fun _ hk => hk.2) (.slice Ao26 x154001_1.length co26)) (fun _ hk => trivial), pw⟩

/-! ### L2_ints: function 19 -/
def L2_ints.f (l0 : List Int) : Option (List Int) := if ([] : List Int).length + l0.length < 17592186044416 then (some (([] : List Int) ++ l0)) else (none)
set_option maxHeartbeats 8000000 in
set_option maxRecDepth 100000 in
theorem L2_ints.calls [EA] (A0 : Option Addr) (c0 : Nat) (l0 : List Int) (r : List Int) (w : World) (hr0 : Kd.C (Kd.int .i64) w A0 l0.length l0) (hc0 : l0.length ≤ c0) (h : L2_ints.f l0 = some r) :
  Calls Tryd.prog 19 #[.slice A0 l0.length c0] w fun e w' => ∃ v0_ : Value, e = .returned (v0_) ∧ Kd.R (Kd.int .i64) 3 w' w.heap.size (fun _ => True) v0_ r ∧ Below w.heap.size w w' := by
 have HR0 := am hr0
 have HC0 := am hc0
 clear hr0 hc0
 have HB := am (Below.refl w.heap.size w)
 have H : (if ([] : List Int).length + l0.length < 17592186044416 then (some (([] : List Int) ++ l0)) else (none)) = some r := h
 clear h
 by_cases c2 : ([] : List Int).length + l0.length < 17592186044416
 ·rw [if_pos c2] at H
  have LMc2 := am c2
  clear c2
  obtain ⟨y159, hy159⟩ : ∃ y_ : List Int, y_ = (([] : List Int) ++ l0) := ⟨_, rfl⟩
  replace H : (some y159) = some r := by first | (rw [hy159]; with_reducible exact H) | (have H2_ := (Option.bind_some _ _).symm.trans H; rw [hy159]; with_reducible exact H2_) | (have H2_ := (Option.bind_some _ _).symm.trans H; with_reducible exact H2_) | with_reducible exact H | (rw [hy159]; exact H) | exact H
  have Ny159 := am hy159
  clear hy159
  obtain rfl := Option.some.inj H
  go_enter Tryd.func19, Tryd.ntmps19
  go_wp2_with (first | ((with_reducible refine gate_builtin (b := .append) (xs := #[.tmp 4, .tmp 5]) rfl ?_); at_builtin; refine Kd.R_append_rows (Kd.int .i64) (w0 := w) w.heap.size rfl (.tmp 4) (.tmp 5) 25 3 (.int .i64 0) 8 rfl Tryd.underlying25 info3 rfl (by decide) (by omega) (.slice none 0 0) ([] : List Int) l0 _ _ _ (fun _ => True) (fun _ => False) rfl rfl ?aO ?aR (fun _ _ h => h) (fun _ h => h.elim) ?aF ?aB ?aS ?aL ?_; (case aR => repeat (first | exact HR0.out | (with_reducible refine Kd.C_alloc ?_ _) | (with_reducible refine Kd.C_drewN ?_ _) | (with_reducible refine Kd.C_drew ?_))); (case aB => exact pw); (case aF => exact (fun _ _ => trivial)); (case aO => exact ((Kd.R_nil _ _ _ _ (fun _ => True)))); (case aS => exact (below_size pw)); (case aL => have := LMc2.out; omega); intro v160 w3 ho hb hg hat; rw [← Ny159.out] at ho; have n0_ := am (hb); have n1_ := am (ho); clear HB; revert n0_ n1_; intro HB HO161; clear ho hb hg hat))
  go_ret
  exact ⟨_, pe, by (with_reducible repeat (first | apply Kd.R_alloc | apply Kd.R_drewN | apply Kd.R_drew)); exact HO161.out, pw⟩
 rw [if_neg c2] at H
 exact absurd H (by simp)

/-! ### R2_HasZone: function 23 -/
mutual
def R2_HasZone.l0 : Nat → List Int → Int → Int → List (S67) → Option (Bool)
 | 0, _, _, _, _ => none
 | k + 1, x5, x6, x163000, x163001 => if x6 ≤ x163000 then (R2_HasZone.l1 k x5 x6 0 x163000 x163001) else (some true)
def R2_HasZone.l1 : Nat → List Int → Int → Int → Int → List (S67) → Option (Bool)
 | 0, _, _, _, _, _ => none
 | k + 1, x5, x6, x7, x163000, x163001 => if x7 ≤ x163000 then (if 0 ≤ (wrap64 ((wrap64 (x6 * (wrap64 (x163000 + 1)))) + x7)) then (if (wrap64 ((wrap64 (x6 * (wrap64 (x163000 + 1)))) + x7)) < (x163001.length : Int) then (if (rd_T67 x163001 (wrap64 ((wrap64 (x6 * (wrap64 (x163000 + 1)))) + x7))).f0 = true then (if 0 ≤ x7 then (if x7 < (x5.length : Int) then (if 0 ≤ x6 then (if x6 < (x5.length : Int) then (if (wrap64 ((rd x5 x7) - (rd x5 x6))) > ((rd_T67 x163001 (wrap64 ((wrap64 (x6 * (wrap64 (x163000 + 1)))) + x7))).f1) then (some false) else (R2_HasZone.l1 k x5 x6 (wrap64 (x7 + 1)) x163000 x163001)) else (none)) else (none)) else (none)) else (none)) else (R2_HasZone.l1 k x5 x6 (wrap64 (x7 + 1)) x163000 x163001)) else (none)) else (none)) else (R2_HasZone.l0 k x5 (wrap64 (x6 + 1)) x163000 x163001)
end
def R2_HasZone.f (k : Nat) (a0_0 : Int) (l0_1 : List (S67)) (l1 : List Int) : Option (Bool) := (some (([0] : List Int) : List Int)).bind fun y163 => (if y163.length + l1.length < 17592186044416 then (R2_HasZone.l0 k (y163 ++ l1) 0 a0_0 l0_1) else (none))
theorem R2_HasZone.mono_l : ∀ k, (∀ y0 y1 y2 y3, LeO (R2_HasZone.l0 k y0 y1 y2 y3) (R2_HasZone.l0 (k + 1) y0 y1 y2 y3)) ∧ (∀ y0 y1 y2 y3 y4, LeO (R2_HasZone.l1 k y0 y1 y2 y3 y4) (R2_HasZone.l1 (k + 1) y0 y1 y2 y3 y4))
 | 0 => ⟨fun _ _ _ _ r h => by simp [R2_HasZone.l0] at h, fun _ _ _ _ _ r h => by simp [R2_HasZone.l1] at h⟩
 | k + 1 => by
  obtain ⟨ih0, ih1⟩ := R2_HasZone.mono_l k
  refine ⟨?_, ?_⟩
  ·intro y0 y1 y2 y3
   unfold R2_HasZone.l0
   repeat' first
   | (with_reducible exact ih0 _ _ _ _)
   | (with_reducible exact ih1 _ _ _ _ _)
   | (with_reducible exact LeO.refl _)
   | (with_reducible exact LeO.none _)
   | (with_reducible refine LeO.ite ?_ ?_)
   | (with_reducible refine LeO.bind ?_ (fun _ => ?_))
   | exact ih0 _ _ _ _
   | exact ih1 _ _ _ _ _
   | exact LeO.none _
   | refine LeO.ite ?_ ?_
   | refine LeO.bind ?_ (fun _ => ?_)
  intro y0 y1 y2 y3 y4
  unfold R2_HasZone.l1
  repeat' first
  | (with_reducible exact ih0 _ _ _ _)
  | (with_reducible exact ih1 _ _ _ _ _)
  | (with_reducible exact LeO.refl _)
  | (with_reducible exact LeO.none _)
  | (with_reducible refine LeO.ite ?_ ?_)
  | (with_reducible refine LeO.bind ?_ (fun _ => ?_))
  | exact ih0 _ _ _ _
  | exact ih1 _ _ _ _ _
  | exact LeO.none _
  | refine LeO.ite ?_ ?_
  | refine LeO.bind ?_ (fun _ => ?_)
theorem R2_HasZone.mono : ∀ a0 a1 a2 k, LeO (R2_HasZone.f k a0 a1 a2) (R2_HasZone.f (k + 1) a0 a1 a2) := by
 intro a0 a1 a2 k
 obtain ⟨ih0, ih1⟩ := R2_HasZone.mono_l k
 unfold R2_HasZone.f
 repeat' first
   | (with_reducible exact ih0 _ _ _ _)
   | (with_reducible exact ih1 _ _ _ _ _)
   | (with_reducible exact LeO.refl _)
   | (with_reducible exact LeO.none _)
   | (with_reducible refine LeO.ite ?_ ?_)
   | (with_reducible refine LeO.bind ?_ (fun _ => ?_))
   | exact ih0 _ _ _ _
   | exact ih1 _ _ _ _ _
   | exact LeO.none _
   | refine LeO.ite ?_ ?_
   | refine LeO.bind ?_ (fun _ => ?_)
set_option maxHeartbeats 8000000 in
set_option maxRecDepth 100000 in
theorem R2_HasZone.calls [EA] (k : Nat) (a0_0 : Int) (A0_1 : Option Addr) (c0_1 : Nat) (l0_1 : List (S67)) (A1 : Option Addr) (c1 : Nat) (l1 : List Int) (r : Bool) (w : World) (hr0_1 : Kd.C k67 w A0_1 l0_1.length l0_1) (hc0_1 : l0_1.length ≤ c0_1) (hr1 : Kd.C (Kd.int .i64) w A1 l1.length l1) (hc1 : l1.length ≤ c1) (h : R2_HasZone.f k a0_0 l0_1 l1 = some r) :
  Calls Tryd.prog 23 #[.agg #[.int .i64 a0_0, .slice A0_1 l0_1.length c0_1], .slice A1 l1.length c1] w fun e w' => e = .returned (.bool r) ∧ Below w.heap.size w w' := by
 have hu24 := Tryd.underlying24
 have hu67 := Tryd.underlying67
 have HR0_1 := am hr0_1
 have HC0_1 := am hc0_1
 clear hr0_1 hc0_1
 have HR1 := am hr1
 have HC1 := am hc1
 clear hr1 hc1
 have HB := am (Below.refl w.heap.size w)
 have H : ((some (([0] : List Int) : List Int)).bind fun y163 => (if y163.length + l1.length < 17592186044416 then (R2_HasZone.l0 k (y163 ++ l1) 0 a0_0 l0_1) else (none))) = some r := h
 clear h
 obtain ⟨y163, hy163⟩ : ∃ y_ : List Int, y_ = (([0] : List Int)) := ⟨_, rfl⟩
 replace H : (if y163.length + l1.length < 17592186044416 then (R2_HasZone.l0 k (y163 ++ l1) 0 a0_0 l0_1) else (none)) = some r := by first | (rw [hy163]; with_reducible exact H) | (have H2_ := (Option.bind_some _ _).symm.trans H; rw [hy163]; with_reducible exact H2_) | (have H2_ := (Option.bind_some _ _).symm.trans H; with_reducible exact H2_) | with_reducible exact H | (rw [hy163]; exact H) | exact H
 have Ny163 := am hy163
 clear hy163
 by_cases c3 : y163.length + l1.length < 17592186044416
 ·rw [if_pos c3] at H
  have LMc3 := am c3
  clear c3
  obtain ⟨y166, hy166⟩ : ∃ y_ : List Int, y_ = (y163 ++ l1) := ⟨_, rfl⟩
  replace H : (R2_HasZone.l0 k y166 0 a0_0 l0_1) = some r := by first | (rw [hy166]; with_reducible exact H) | (have H2_ := (Option.bind_some _ _).symm.trans H; rw [hy166]; with_reducible exact H2_) | (have H2_ := (Option.bind_some _ _).symm.trans H; with_reducible exact H2_) | with_reducible exact H | (rw [hy166]; exact H) | exact H
  have Ny166 := am hy166
  clear hy166
  have H' := am H
  clear H
  go_enter Tryd.func23, Tryd.ntmps23
  go_wp2_with (first | ((with_reducible refine gate_dst (N := 2) rfl ?_); refine box_event ?hg (N := 2) ?hd (cs := #[.int .i64 a0_0, .slice A0_1 l0_1.length c0_1]) (t := 24) ?hr ?_; (case hd => rfl); (case hg => rfl); (case hr => first | (go_simp; done) | (go_simp; rfl)); intro gb162 hg w4 hbox hb; have n0_ := am (below_step pw hb); have n1_ := am (hbox); have n2_ := am (sz (w := w) hg pw); have n3_ := am (sz (w := w) hg pw); clear HB; revert n0_ n1_ n2_ n3_; intro HB BK162 GW162 GE162; clear hb hbox hg) | ((with_reducible refine gate_dst (N := 9) rfl ?_); refine Kd.R_lit (Kd.int .i64) _ 3 ?hg (N := 9) ?hd (xs := ([0] : List Int)) (inner := [.int .i64 0]) (ok := fun _ => True) (okp := fun _ => True) ?hr ?hp (fun _ hk => hk) trivial (Below.refl _ _) (Nat.le_refl _) (by simp) ?_; (case hd => rfl); (case hg => rfl); (case hr => first | (go_simp; done) | (go_simp; rfl)); (case hp => exact (Reps.one (show Kd.M (Kd.int .i64) _ _ _ 0 [.int .i64 0] from rfl) (Reps.none _ _))); intro v164 w5 ho6 hb hg_ hnew_; clear hg_ hnew_; (first | rw [← Ny163.out] at ho6 | (simp only [Int.reduceToNat] at ho6; rw [← Ny163.out] at ho6)); have n0_ := am (Kd.R_lower ho6 (below_size pw)); have n1_ := bb BK162 hb; have n2_ := am (below_step pw hb); clear BK162 HB; revert n0_ n1_ n2_; intro HO165 BK162 HB; clear hb ho6) | ((with_reducible refine gate_builtin (b := .append) (xs := #[.tmp 10, .tmp 11]) rfl ?_); at_builtin; refine Kd.R_append_rows (Kd.int .i64) (w0 := w) w.heap.size rfl (.tmp 10) (.tmp 11) 25 3 (.int .i64 0) 8 rfl Tryd.underlying25 info3 rfl (by decide) (by omega) v164 y163 l1 _ _ _ (fun _ => True) (fun _ => False) rfl rfl ?aO ?aR (fun _ _ h => h) (fun _ h => h.elim) ?aF ?aB ?aS ?aL ?_; (case aR => repeat (first | exact (Kd.C_below HR1.out HB.out) | (with_reducible refine Kd.C_alloc ?_ _) | (with_reducible refine Kd.C_drewN ?_ _) | (with_reducible refine Kd.C_drew ?_))); (case aB => exact pw); (case aF => exact (fun _ _ => trivial)); (case aO => exact (rk HO165)); (case aS => exact (below_size pw)); (case aL => have := LMc3.out; omega); intro v167 w7 ho hb hg hat; rw [← Ny166.out] at ho; have n0_ := am (blk_grown (g := gb162) (o := .cells #[.int .i64 a0_0, .slice A0_1 l0_1.length c0_1] 24 (0, 0)) pk hg (Kd.R_ne HO165.out BK162.out (by decide))); have n1_ := am (hb); have n2_ := am (ho); clear BK162 HB HO165; revert n0_ n1_ n2_; intro BK162 HB HO168; clear ho hb hg hat))
  go_loopg [6] k (fun kq v6 w' => ∃ (x6_1 : Int), v6 = .int .i64 x6_1 ∧ Aside0 (R2_HasZone.l0 kq y166 x6_1 a0_0 l0_1 = some r) ∧ Aside0 (kq ≤ k) ∧ Aside0 (Kd.R (Kd.int .i64) 3 w' w.heap.size (fun _ => True) v167 y166) ∧ Aside0 (w'.heap[gb162]? = some (.cells #[.int .i64 a0_0, (.slice A0_1 l0_1.length c0_1)] 24 (0, 0))) ∧ Aside0 (Below w.heap.size w w'))
  case atStart => exact ⟨(0), pr, H', ⟨Nat.le_refl _⟩, ⟨by (with_reducible repeat (first | apply Kd.R_alloc | apply Kd.R_drewN | apply Kd.R_drew)); exact HO168.out⟩, ⟨pk⟩, ⟨pw⟩⟩
  case round =>
   clear H'; (try clear c1); (try clear c2); (try clear p2); (try clear c3); obtain ⟨x6_1, rfl, HA, HK1, HO_5, BK162, HB⟩ := hrel; cases gk with
   | zero => exact absurd HA.out (by simp [R2_HasZone.l0])
   | succ k1 =>
    have H := HA.out; clear HA; simp only [R2_HasZone.l0] at H; by_cases c8 : x6_1 ≤ a0_0
    ·rw [if_pos c8] at H
     have c8b0 : decide (x6_1 ≤ a0_0) = true := decide_eq_true c8; clear c8; have H' := am H; clear H; have hcz9_0 : wr.cell? ⟨gb162, 0, none⟩ = some (.int .i64 a0_0) := bc BK162 0; have hcz9_1 : wr.cell? ⟨gb162, 1, none⟩ = some (.slice A0_1 l0_1.length c0_1) := bc BK162 1; have hfz9_0 := blk_frozen BK162.out 0; have hfz9_1 := blk_frozen BK162.out 1; go_wp2
     repeat (go_quiet (fail); try go_wp2)
     go_loopg [7] k1 (fun kq v7 w' => ∃ (x7_2 : Int), v7 = .int .i64 x7_2 ∧ Aside0 (R2_HasZone.l1 kq y166 x6_1 x7_2 a0_0 l0_1 = some r) ∧ Aside0 (kq ≤ k1) ∧ Aside0 (Kd.R (Kd.int .i64) 3 w' w.heap.size (fun _ => True) v167 y166) ∧ Aside0 (w'.heap[gb162]? = some (.cells #[.int .i64 a0_0, (.slice A0_1 l0_1.length c0_1)] 24 (0, 0))) ∧ Aside0 (Below w.heap.size w w'))
     case atStart => exact ⟨(0), pr, H', ⟨Nat.le_refl _⟩, ⟨by (with_reducible repeat (first | apply Kd.R_alloc | apply Kd.R_drewN | apply Kd.R_drew)); exact HO_5.out⟩, ⟨pk⟩, ⟨pw⟩⟩
     case round =>
      clear H'; (try clear c1); (try clear c2); (try clear p2); (try clear c3); (try clear c8); (try clear c8b0); (try clear hcz9_0); (try clear hcz9_1); (try clear hfz9_0); (try clear hfz9_1); (try clear p2); obtain ⟨x7_2, rfl, HA, HK2, HO_5, BK162, HB⟩ := hrel; cases gk with
      | zero => exact absurd HA.out (by simp [R2_HasZone.l1])
      | succ k2 =>
       have H := HA.out; clear HA; simp only [R2_HasZone.l1] at H; by_cases c10 : x7_2 ≤ a0_0
       ·rw [if_pos c10] at H
        have c10b0 : decide (x7_2 ≤ a0_0) = true := decide_eq_true c10; clear c10; obtain ⟨ji11, hji11⟩ : ∃ j_ : Int, (wrap64 ((wrap64 (x6_1 * (wrap64 (a0_0 + 1)))) + x7_2)) = j_ := ⟨_, rfl⟩
        replace H : (if 0 ≤ (ji11) then (if (ji11) < (l0_1.length : Int) then (if (rd_T67 l0_1 (ji11)).f0 = true then (if 0 ≤ x7_2 then (if x7_2 < (y166.length : Int) then (if 0 ≤ x6_1 then (if x6_1 < (y166.length : Int) then (if (wrap64 ((rd y166 x7_2) - (rd y166 x6_1))) > ((rd_T67 l0_1 (ji11)).f1) then (some false) else (R2_HasZone.l1 k2 y166 x6_1 (wrap64 (x7_2 + 1)) a0_0 l0_1)) else (none)) else (none)) else (none)) else (none)) else (R2_HasZone.l1 k2 y166 x6_1 (wrap64 (x7_2 + 1)) a0_0 l0_1)) else (none)) else (none)) = some r := by first | (rw [hji11] at H; exact H) | (simp only [hji11] at H ⊢; exact H)
        have hji11w : (IntKind.i64.wrap ((wrap64 (x6_1 * (wrap64 (a0_0 + 1)))) + x7_2)) = ji11 := (i64_w _).trans hji11; by_cases c12 : 0 ≤ (ji11)
        ·rw [if_pos c12] at H
         have c12b0 : decide (0 ≤ (ji11)) = true := decide_eq_true c12; clear c12; by_cases c13 : (ji11) < (l0_1.length : Int)
         ·rw [if_pos c13] at H
          have c13b0 : decide ((ji11) < (l0_1.length : Int)) = true := decide_eq_true c13; clear c13; obtain ⟨bq14, hbq14⟩ : ∃ b_ : Bool, b_ = ((rd_T67 l0_1 (ji11)).f0) := ⟨_, rfl⟩
          replace H : (if bq14 = true then (if 0 ≤ x7_2 then (if x7_2 < (y166.length : Int) then (if 0 ≤ x6_1 then (if x6_1 < (y166.length : Int) then (if (wrap64 ((rd y166 x7_2) - (rd y166 x6_1))) > ((rd_T67 l0_1 (ji11)).f1) then (some false) else (R2_HasZone.l1 k2 y166 x6_1 (wrap64 (x7_2 + 1)) a0_0 l0_1)) else (none)) else (none)) else (none)) else (none)) else (R2_HasZone.l1 k2 y166 x6_1 (wrap64 (x7_2 + 1)) a0_0 l0_1)) = some r := by rw [← hbq14] at H; exact H
          have Nbq14 := am hbq14; clear hbq14; by_cases c15 : bq14 = true
          ·subst c15
           have H1 : (if 0 ≤ x7_2 then (if x7_2 < (y166.length : Int) then (if 0 ≤ x6_1 then (if x6_1 < (y166.length : Int) then (if (wrap64 ((rd y166 x7_2) - (rd y166 x6_1))) > ((rd_T67 l0_1 (ji11)).f1) then (some false) else (R2_HasZone.l1 k2 y166 x6_1 (wrap64 (x7_2 + 1)) a0_0 l0_1)) else (none)) else (none)) else (none)) else (none)) = some r := by rw [if_pos rfl] at H; exact H
           clear H; have H := H1; clear H1; by_cases c16 : 0 ≤ x7_2
           ·rw [if_pos c16] at H
            have c16b0 : decide (0 ≤ x7_2) = true := decide_eq_true c16; clear c16; by_cases c17 : x7_2 < (y166.length : Int)
            ·rw [if_pos c17] at H
             have c17b0 : decide (x7_2 < (y166.length : Int)) = true := decide_eq_true c17; clear c17; by_cases c18 : 0 ≤ x6_1
             ·rw [if_pos c18] at H
              have c18b0 : decide (0 ≤ x6_1) = true := decide_eq_true c18; clear c18; by_cases c19 : x6_1 < (y166.length : Int)
              ·rw [if_pos c19] at H
               have c19b0 : decide (x6_1 < (y166.length : Int)) = true := decide_eq_true c19; clear c19; by_cases c20 : (wrap64 ((rd y166 x7_2) - (rd y166 x6_1))) > ((rd_T67 l0_1 (ji11)).f1)
               ·rw [if_pos c20] at H
                have c20b0 : decide (((rd_T67 l0_1 (ji11)).f1) < (wrap64 ((rd y166 x7_2) - (rd y166 x6_1)))) = true := decide_eq_true c20; clear c20; obtain rfl := Option.some.inj H; have hcz21_0 : wr.cell? ⟨gb162, 0, none⟩ = some (.int .i64 a0_0) := bc BK162 0; have hcz21_1 : wr.cell? ⟨gb162, 1, none⟩ = some (.slice A0_1 l0_1.length c0_1) := bc BK162 1; have hfz21_0 := blk_frozen BK162.out 0; have hfz21_1 := blk_frozen BK162.out 1; have p169 : 0 ≤ ((ji11) : Int) := od; have q169 : (ji11) < (l0_1.length : Int) := od; obtain ⟨ad169, e169, hx169_0, hx169_1⟩ := at_T67 HR0_1.out (ji11) p169 q169; (try rw [← Nbq14.out] at hx169_0); cases e169; replace hx169_0 := (HB.out.cell (World.block_lt_of_cell? w _ hx169_0)).trans hx169_0; replace hx169_1 := (HB.out.cell (World.block_lt_of_cell? w _ hx169_1)).trans hx169_1; replace p169 := eq_true p169; replace q169 := eq_true q169
                go_wp2_with (first | ((with_reducible refine gate_dst (N := 8) rfl ?_); refine box_event ?hg (N := 8) ?hd (cs := #[.bool false, .int .i64 0]) (t := 67) ?hr ?_; (case hd => rfl); (case hg => rfl); (case hr => first | (go_simp; done) | (go_simp; rfl)); intro gb170 hg w22 hbox hb; have n0_ := am (Kd.R_below (rk HO_5) hb); have n1_ := bb BK162 hb; have n2_ := am (below_step pw hb); have n3_ := am (hbox); have n4_ := am (sz (w := w) hg pw); have n5_ := am (sz (w := w) hg pw); have n6_ := am (nl BK162 hg); have n7_ := am ((nl BK162 hg).symm); clear HO_5 BK162 HB; revert n0_ n1_ n2_ n3_ n4_ n5_ n6_ n7_; intro HO_5 BK162 HB BK170 GW170 GE170 NB162_170 NB170_162; clear hb hbox hg; have hnb23 := NB170_162.out; have hnc23 := NB162_170.out; have hcz24_0 : w22.cell? ⟨gb170, 0, none⟩ = some (.bool false) := bc BK170 0; have hcz24_1 : w22.cell? ⟨gb170, 1, none⟩ = some (.int .i64 0) := bc BK170 1; have hfz24_0 := blk_frozen BK170.out 0; have hfz24_1 := blk_frozen BK170.out 1; obtain ⟨Ao25, co25, eo25⟩ := Kd.R_slice HO_5.out; subst eo25; have p171 : 0 ≤ (x7_2 : Int) := od; have q171 : x7_2 < (y166.length : Int) := od; obtain ⟨ad171, e171, hx171_0⟩ := Kd.at_int (Kd.R_reads' HO_5.out).2.2 x7_2 p171 q171; cases e171; have hn171_0 : ad171.block ≠ gb170 := Kd.own_blk (Kd.R_ne HO_5.out BK170.out (by decide)); have hn171_1 : ad171.block ≠ gb170 := Kd.own_blk (Kd.R_ne HO_5.out BK170.out (by decide)); replace hx171_0 := (cell_far (p := ⟨gb170, 0, none⟩) (by first | (rw [add_block]; exact hn171_0) | (show (Addr.add _ _).block ≠ _; rw [add_block]; exact hn171_0) | exact hn171_0) (.bool true)).trans hx171_0; replace hx171_0 := (cell_far (p := ⟨gb170, 1, none⟩) (by first | (rw [add_block]; exact hn171_1) | (show (Addr.add _ _).block ≠ _; rw [add_block]; exact hn171_1) | exact hn171_1) (.int .i64 ((rd_T67 l0_1 (ji11)).f1))).trans hx171_0; (try have hy171_0 := fun (n_ : Nat) => (show ((((w22.drewN n_).setCell ⟨gb170, 0, none⟩ (.bool true)).setCell ⟨gb170, 1, none⟩ (.int .i64 ((rd_T67 l0_1 (ji11)).f1)))).cell? _ = some _ from hx171_0)); clear hn171_0; clear hn171_1; replace p171 := eq_true p171; replace q171 := eq_true q171; have p172 : 0 ≤ (x6_1 : Int) := od; have q172 : x6_1 < (y166.length : Int) := od; obtain ⟨ad172, e172, hx172_0⟩ := Kd.at_int (Kd.R_reads' HO_5.out).2.2 x6_1 p172 q172; obtain rfl : ad171 = ad172 := (by injection e172); have hn172_0 : ad171.block ≠ gb170 := Kd.own_blk (Kd.R_ne HO_5.out BK170.out (by decide)); have hn172_1 : ad171.block ≠ gb170 := Kd.own_blk (Kd.R_ne HO_5.out BK170.out (by decide)); replace hx172_0 := (cell_far (p := ⟨gb170, 0, none⟩) (by first | (rw [add_block]; exact hn172_0) | (show (Addr.add _ _).block ≠ _; rw [add_block]; exact hn172_0) | exact hn172_0) (.bool true)).trans hx172_0; replace hx172_0 := (cell_far (p := ⟨gb170, 1, none⟩) (by first | (rw [add_block]; exact hn172_1) | (show (Addr.add _ _).block ≠ _; rw [add_block]; exact hn172_1) | exact hn172_1) (.int .i64 ((rd_T67 l0_1 (ji11)).f1))).trans hx172_0; (try have hy172_0 := fun (n_ : Nat) => (show ((((w22.drewN n_).setCell ⟨gb170, 0, none⟩ (.bool true)).setCell ⟨gb170, 1, none⟩ (.int .i64 ((rd_T67 l0_1 (ji11)).f1)))).cell? _ = some _ from hx172_0)); clear hn172_0; clear hn172_1; replace p172 := eq_true p172; replace q172 := eq_true q172))
                repeat (go_quiet (first | ((with_reducible refine gate_dst (N := 8) rfl ?_); refine box_event ?hg (N := 8) ?hd (cs := #[.bool false, .int .i64 0]) (t := 67) ?hr ?_; (case hd => rfl); (case hg => rfl); (case hr => first | (go_simp; done) | (go_simp; rfl)); intro gb170 hg w22 hbox hb; have n0_ := am (Kd.R_below (rk HO_5) hb); have n1_ := bb BK162 hb; have n2_ := am (below_step pw hb); have n3_ := am (hbox); have n4_ := am (sz (w := w) hg pw); have n5_ := am (sz (w := w) hg pw); have n6_ := am (nl BK162 hg); have n7_ := am ((nl BK162 hg).symm); clear HO_5 BK162 HB; revert n0_ n1_ n2_ n3_ n4_ n5_ n6_ n7_; intro HO_5 BK162 HB BK170 GW170 GE170 NB162_170 NB170_162; clear hb hbox hg; have hnb23 := NB170_162.out; have hnc23 := NB162_170.out; have hcz24_0 : w22.cell? ⟨gb170, 0, none⟩ = some (.bool false) := bc BK170 0; have hcz24_1 : w22.cell? ⟨gb170, 1, none⟩ = some (.int .i64 0) := bc BK170 1; have hfz24_0 := blk_frozen BK170.out 0; have hfz24_1 := blk_frozen BK170.out 1; obtain ⟨Ao25, co25, eo25⟩ := Kd.R_slice HO_5.out; subst eo25; have p171 : 0 ≤ (x7_2 : Int) := od; have q171 : x7_2 < (y166.length : Int) := od; obtain ⟨ad171, e171, hx171_0⟩ := Kd.at_int (Kd.R_reads' HO_5.out).2.2 x7_2 p171 q171; cases e171; have hn171_0 : ad171.block ≠ gb170 := Kd.own_blk (Kd.R_ne HO_5.out BK170.out (by decide)); have hn171_1 : ad171.block ≠ gb170 := Kd.own_blk (Kd.R_ne HO_5.out BK170.out (by decide)); replace hx171_0 := (cell_far (p := ⟨gb170, 0, none⟩) (by first | (rw [add_block]; exact hn171_0) | (show (Addr.add _ _).block ≠ _; rw [add_block]; exact hn171_0) | exact hn171_0) (.bool true)).trans hx171_0; replace hx171_0 := (cell_far (p := ⟨gb170, 1, none⟩) (by first | (rw [add_block]; exact hn171_1) | (show (Addr.add _ _).block ≠ _; rw [add_block]; exact hn171_1) | exact hn171_1) (.int .i64 ((rd_T67 l0_1 (ji11)).f1))).trans hx171_0; (try have hy171_0 := fun (n_ : Nat) => (show ((((w22.drewN n_).setCell ⟨gb170, 0, none⟩ (.bool true)).setCell ⟨gb170, 1, none⟩ (.int .i64 ((rd_T67 l0_1 (ji11)).f1)))).cell? _ = some _ from hx171_0)); clear hn171_0; clear hn171_1; replace p171 := eq_true p171; replace q171 := eq_true q171; have p172 : 0 ≤ (x6_1 : Int) := od; have q172 : x6_1 < (y166.length : Int) := od; obtain ⟨ad172, e172, hx172_0⟩ := Kd.at_int (Kd.R_reads' HO_5.out).2.2 x6_1 p172 q172; obtain rfl : ad171 = ad172 := (by injection e172); have hn172_0 : ad171.block ≠ gb170 := Kd.own_blk (Kd.R_ne HO_5.out BK170.out (by decide)); have hn172_1 : ad171.block ≠ gb170 := Kd.own_blk (Kd.R_ne HO_5.out BK170.out (by decide)); replace hx172_0 := (cell_far (p := ⟨gb170, 0, none⟩) (by first | (rw [add_block]; exact hn172_0) | (show (Addr.add _ _).block ≠ _; rw [add_block]; exact hn172_0) | exact hn172_0) (.bool true)).trans hx172_0; replace hx172_0 := (cell_far (p := ⟨gb170, 1, none⟩) (by first | (rw [add_block]; exact hn172_1) | (show (Addr.add _ _).block ≠ _; rw [add_block]; exact hn172_1) | exact hn172_1) (.int .i64 ((rd_T67 l0_1 (ji11)).f1))).trans hx172_0; (try have hy172_0 := fun (n_ : Nat) => (show ((((w22.drewN n_).setCell ⟨gb170, 0, none⟩ (.bool true)).setCell ⟨gb170, 1, none⟩ (.int .i64 ((rd_T67 l0_1 (ji11)).f1)))).cell? _ = some _ from hx172_0)); clear hn172_0; clear hn172_1; replace p172 := eq_true p172; replace q172 := eq_true q172)); try go_wp2_with (first | ((with_reducible refine gate_dst (N := 8) rfl ?_); refine box_event ?hg (N := 8) ?hd (cs := #[.bool false, .int .i64 0]) (t := 67) ?hr ?_; (case hd => rfl); (case hg => rfl); (case hr => first | (go_simp; done) | (go_simp; rfl)); intro gb170 hg w22 hbox hb; have n0_ := am (Kd.R_below (rk HO_5) hb); have n1_ := bb BK162 hb; have n2_ := am (below_step pw hb); have n3_ := am (hbox); have n4_ := am (sz (w := w) hg pw); have n5_ := am (sz (w := w) hg pw); have n6_ := am (nl BK162 hg); have n7_ := am ((nl BK162 hg).symm); clear HO_5 BK162 HB; revert n0_ n1_ n2_ n3_ n4_ n5_ n6_ n7_; intro HO_5 BK162 HB BK170 GW170 GE170 NB162_170 NB170_162; clear hb hbox hg; have hnb23 := NB170_162.out; have hnc23 := NB162_170.out; have hcz24_0 : w22.cell? ⟨gb170, 0, none⟩ = some (.bool false) := bc BK170 0; have hcz24_1 : w22.cell? ⟨gb170, 1, none⟩ = some (.int .i64 0) := bc BK170 1; have hfz24_0 := blk_frozen BK170.out 0; have hfz24_1 := blk_frozen BK170.out 1; obtain ⟨Ao25, co25, eo25⟩ := Kd.R_slice HO_5.out; subst eo25; have p171 : 0 ≤ (x7_2 : Int) := od; have q171 : x7_2 < (y166.length : Int) := od; obtain ⟨ad171, e171, hx171_0⟩ := Kd.at_int (Kd.R_reads' HO_5.out).2.2 x7_2 p171 q171; cases e171; have hn171_0 : ad171.block ≠ gb170 := Kd.own_blk (Kd.R_ne HO_5.out BK170.out (by decide)); have hn171_1 : ad171.block ≠ gb170 := Kd.own_blk (Kd.R_ne HO_5.out BK170.out (by decide)); replace hx171_0 := (cell_far (p := ⟨gb170, 0, none⟩) (by first | (rw [add_block]; exact hn171_0) | (show (Addr.add _ _).block ≠ _; rw [add_block]; exact hn171_0) | exact hn171_0) (.bool true)).trans hx171_0; replace hx171_0 := (cell_far (p := ⟨gb170, 1, none⟩) (by first | (rw [add_block]; exact hn171_1) | (show (Addr.add _ _).block ≠ _; rw [add_block]; exact hn171_1) | exact hn171_1) (.int .i64 ((rd_T67 l0_1 (ji11)).f1))).trans hx171_0; (try have hy171_0 := fun (n_ : Nat) => (show ((((w22.drewN n_).setCell ⟨gb170, 0, none⟩ (.bool true)).setCell ⟨gb170, 1, none⟩ (.int .i64 ((rd_T67 l0_1 (ji11)).f1)))).cell? _ = some _ from hx171_0)); clear hn171_0; clear hn171_1; replace p171 := eq_true p171; replace q171 := eq_true q171; have p172 : 0 ≤ (x6_1 : Int) := od; have q172 : x6_1 < (y166.length : Int) := od; obtain ⟨ad172, e172, hx172_0⟩ := Kd.at_int (Kd.R_reads' HO_5.out).2.2 x6_1 p172 q172; obtain rfl : ad171 = ad172 := (by injection e172); have hn172_0 : ad171.block ≠ gb170 := Kd.own_blk (Kd.R_ne HO_5.out BK170.out (by decide)); have hn172_1 : ad171.block ≠ gb170 := Kd.own_blk (Kd.R_ne HO_5.out BK170.out (by decide)); replace hx172_0 := (cell_far (p := ⟨gb170, 0, none⟩) (by first | (rw [add_block]; exact hn172_0) | (show (Addr.add _ _).block ≠ _; rw [add_block]; exact hn172_0) | exact hn172_0) (.bool true)).trans hx172_0; replace hx172_0 := (cell_far (p := ⟨gb170, 1, none⟩) (by first | (rw [add_block]; exact hn172_1) | (show (Addr.add _ _).block ≠ _; rw [add_block]; exact hn172_1) | exact hn172_1) (.int .i64 ((rd_T67 l0_1 (ji11)).f1))).trans hx172_0; (try have hy172_0 := fun (n_ : Nat) => (show ((((w22.drewN n_).setCell ⟨gb170, 0, none⟩ (.bool true)).setCell ⟨gb170, 1, none⟩ (.int .i64 ((rd_T67 l0_1 (ji11)).f1)))).cell? _ = some _ from hx172_0)); clear hn172_0; clear hn172_1; replace p172 := eq_true p172; replace q172 := eq_true q172)))
                go_ret; exact ⟨by first | rfl | (simp [errW_none, errW_some] <;> rfl) | (simp only [← hji11]; first | rfl | (simp [errW_none, errW_some] <;> rfl)) | (simp [*, errW_none, errW_some] <;> rfl), pw⟩
               rw [if_neg c20] at H; have c20b0 : decide (((rd_T67 l0_1 (ji11)).f1) < (wrap64 ((rd y166 x7_2) - (rd y166 x6_1)))) = false := decide_eq_false c20; clear c20; have H' := am H; clear H; have hcz26_0 : wr.cell? ⟨gb162, 0, none⟩ = some (.int .i64 a0_0) := bc BK162 0; have hcz26_1 : wr.cell? ⟨gb162, 1, none⟩ = some (.slice A0_1 l0_1.length c0_1) := bc BK162 1; have hfz26_0 := blk_frozen BK162.out 0; have hfz26_1 := blk_frozen BK162.out 1; have p169 : 0 ≤ ((ji11) : Int) := od; have q169 : (ji11) < (l0_1.length : Int) := od; obtain ⟨ad169, e169, hx169_0, hx169_1⟩ := at_T67 HR0_1.out (ji11) p169 q169; (try rw [← Nbq14.out] at hx169_0); cases e169; replace hx169_0 := (HB.out.cell (World.block_lt_of_cell? w _ hx169_0)).trans hx169_0; replace hx169_1 := (HB.out.cell (World.block_lt_of_cell? w _ hx169_1)).trans hx169_1; replace p169 := eq_true p169; replace q169 := eq_true q169
               go_wp2_with (first | ((with_reducible refine gate_dst (N := 8) rfl ?_); refine box_event ?hg (N := 8) ?hd (cs := #[.bool false, .int .i64 0]) (t := 67) ?hr ?_; (case hd => rfl); (case hg => rfl); (case hr => first | (go_simp; done) | (go_simp; rfl)); intro gb170 hg w27 hbox hb; have n0_ := am (Kd.R_below (rk HO_5) hb); have n1_ := bb BK162 hb; have n2_ := am (below_step pw hb); have n3_ := am (hbox); have n4_ := am (sz (w := w) hg pw); have n5_ := am (sz (w := w) hg pw); have n6_ := am (nl BK162 hg); have n7_ := am ((nl BK162 hg).symm); clear HO_5 BK162 HB; revert n0_ n1_ n2_ n3_ n4_ n5_ n6_ n7_; intro HO_5 BK162 HB BK170 GW170 GE170 NB162_170 NB170_162; clear hb hbox hg; have hnb28 := NB170_162.out; have hnc28 := NB162_170.out; have hcz29_0 : w27.cell? ⟨gb170, 0, none⟩ = some (.bool false) := bc BK170 0; have hcz29_1 : w27.cell? ⟨gb170, 1, none⟩ = some (.int .i64 0) := bc BK170 1; have hfz29_0 := blk_frozen BK170.out 0; have hfz29_1 := blk_frozen BK170.out 1; obtain ⟨Ao30, co30, eo30⟩ := Kd.R_slice HO_5.out; subst eo30; have p171 : 0 ≤ (x7_2 : Int) := od; have q171 : x7_2 < (y166.length : Int) := od; obtain ⟨ad171, e171, hx171_0⟩ := Kd.at_int (Kd.R_reads' HO_5.out).2.2 x7_2 p171 q171; cases e171; have hn171_0 : ad171.block ≠ gb170 := Kd.own_blk (Kd.R_ne HO_5.out BK170.out (by decide)); have hn171_1 : ad171.block ≠ gb170 := Kd.own_blk (Kd.R_ne HO_5.out BK170.out (by decide)); replace hx171_0 := (cell_far (p := ⟨gb170, 0, none⟩) (by first | (rw [add_block]; exact hn171_0) | (show (Addr.add _ _).block ≠ _; rw [add_block]; exact hn171_0) | exact hn171_0) (.bool true)).trans hx171_0; replace hx171_0 := (cell_far (p := ⟨gb170, 1, none⟩) (by first | (rw [add_block]; exact hn171_1) | (show (Addr.add _ _).block ≠ _; rw [add_block]; exact hn171_1) | exact hn171_1) (.int .i64 ((rd_T67 l0_1 (ji11)).f1))).trans hx171_0; (try have hy171_0 := fun (n_ : Nat) => (show ((((w27.drewN n_).setCell ⟨gb170, 0, none⟩ (.bool true)).setCell ⟨gb170, 1, none⟩ (.int .i64 ((rd_T67 l0_1 (ji11)).f1)))).cell? _ = some _ from hx171_0)); clear hn171_0; clear hn171_1; replace p171 := eq_true p171; replace q171 := eq_true q171; have p172 : 0 ≤ (x6_1 : Int) := od; have q172 : x6_1 < (y166.length : Int) := od; obtain ⟨ad172, e172, hx172_0⟩ := Kd.at_int (Kd.R_reads' HO_5.out).2.2 x6_1 p172 q172; obtain rfl : ad171 = ad172 := (by injection e172); have hn172_0 : ad171.block ≠ gb170 := Kd.own_blk (Kd.R_ne HO_5.out BK170.out (by decide)); have hn172_1 : ad171.block ≠ gb170 := Kd.own_blk (Kd.R_ne HO_5.out BK170.out (by decide)); replace hx172_0 := (cell_far (p := ⟨gb170, 0, none⟩) (by first | (rw [add_block]; exact hn172_0) | (show (Addr.add _ _).block ≠ _; rw [add_block]; exact hn172_0) | exact hn172_0) (.bool true)).trans hx172_0; replace hx172_0 := (cell_far (p := ⟨gb170, 1, none⟩) (by first | (rw [add_block]; exact hn172_1) | (show (Addr.add _ _).block ≠ _; rw [add_block]; exact hn172_1) | exact hn172_1) (.int .i64 ((rd_T67 l0_1 (ji11)).f1))).trans hx172_0; (try have hy172_0 := fun (n_ : Nat) => (show ((((w27.drewN n_).setCell ⟨gb170, 0, none⟩ (.bool true)).setCell ⟨gb170, 1, none⟩ (.int .i64 ((rd_T67 l0_1 (ji11)).f1)))).cell? _ = some _ from hx172_0)); clear hn172_0; clear hn172_1; replace p172 := eq_true p172; replace q172 := eq_true q172))
               repeat (go_quiet (first | ((with_reducible refine gate_dst (N := 8) rfl ?_); refine box_event ?hg (N := 8) ?hd (cs := #[.bool false, .int .i64 0]) (t := 67) ?hr ?_; (case hd => rfl); (case hg => rfl); (case hr => first | (go_simp; done) | (go_simp; rfl)); intro gb170 hg w27 hbox hb; have n0_ := am (Kd.R_below (rk HO_5) hb); have n1_ := bb BK162 hb; have n2_ := am (below_step pw hb); have n3_ := am (hbox); have n4_ := am (sz (w := w) hg pw); have n5_ := am (sz (w := w) hg pw); have n6_ := am (nl BK162 hg); have n7_ := am ((nl BK162 hg).symm); clear HO_5 BK162 HB; revert n0_ n1_ n2_ n3_ n4_ n5_ n6_ n7_; intro HO_5 BK162 HB BK170 GW170 GE170 NB162_170 NB170_162; clear hb hbox hg; have hnb28 := NB170_162.out; have hnc28 := NB162_170.out; have hcz29_0 : w27.cell? ⟨gb170, 0, none⟩ = some (.bool false) := bc BK170 0; have hcz29_1 : w27.cell? ⟨gb170, 1, none⟩ = some (.int .i64 0) := bc BK170 1; have hfz29_0 := blk_frozen BK170.out 0; have hfz29_1 := blk_frozen BK170.out 1; obtain ⟨Ao30, co30, eo30⟩ := Kd.R_slice HO_5.out; subst eo30; have p171 : 0 ≤ (x7_2 : Int) := od; have q171 : x7_2 < (y166.length : Int) := od; obtain ⟨ad171, e171, hx171_0⟩ := Kd.at_int (Kd.R_reads' HO_5.out).2.2 x7_2 p171 q171; cases e171; have hn171_0 : ad171.block ≠ gb170 := Kd.own_blk (Kd.R_ne HO_5.out BK170.out (by decide)); have hn171_1 : ad171.block ≠ gb170 := Kd.own_blk (Kd.R_ne HO_5.out BK170.out (by decide)); replace hx171_0 := (cell_far (p := ⟨gb170, 0, none⟩) (by first | (rw [add_block]; exact hn171_0) | (show (Addr.add _ _).block ≠ _; rw [add_block]; exact hn171_0) | exact hn171_0) (.bool true)).trans hx171_0; replace hx171_0 := (cell_far (p := ⟨gb170, 1, none⟩) (by first | (rw [add_block]; exact hn171_1) | (show (Addr.add _ _).block ≠ _; rw [add_block]; exact hn171_1) | exact hn171_1) (.int .i64 ((rd_T67 l0_1 (ji11)).f1))).trans hx171_0; (try have hy171_0 := fun (n_ : Nat) => (show ((((w27.drewN n_).setCell ⟨gb170, 0, none⟩ (.bool true)).setCell ⟨gb170, 1, none⟩ (.int .i64 ((rd_T67 l0_1 (ji11)).f1)))).cell? _ = some _ from hx171_0)); clear hn171_0; clear hn171_1; replace p171 := eq_true p171; replace q171 := eq_true q171; have p172 : 0 ≤ (x6_1 : Int) := od; have q172 : x6_1 < (y166.length : Int) := od; obtain ⟨ad172, e172, hx172_0⟩ := Kd.at_int (Kd.R_reads' HO_5.out).2.2 x6_1 p172 q172; obtain rfl : ad171 = ad172 := (by injection e172); have hn172_0 : ad171.block ≠ gb170 := Kd.own_blk (Kd.R_ne HO_5.out BK170.out (by decide)); have hn172_1 : ad171.block ≠ gb170 := Kd.own_blk (Kd.R_ne HO_5.out BK170.out (by decide)); replace hx172_0 := (cell_far (p := ⟨gb170, 0, none⟩) (by first | (rw [add_block]; exact hn172_0) | (show (Addr.add _ _).block ≠ _; rw [add_block]; exact hn172_0) | exact hn172_0) (.bool true)).trans hx172_0; replace hx172_0 := (cell_far (p := ⟨gb170, 1, none⟩) (by first | (rw [add_block]; exact hn172_1) | (show (Addr.add _ _).block ≠ _; rw [add_block]; exact hn172_1) | exact hn172_1) (.int .i64 ((rd_T67 l0_1 (ji11)).f1))).trans hx172_0; (try have hy172_0 := fun (n_ : Nat) => (show ((((w27.drewN n_).setCell ⟨gb170, 0, none⟩ (.bool true)).setCell ⟨gb170, 1, none⟩ (.int .i64 ((rd_T67 l0_1 (ji11)).f1)))).cell? _ = some _ from hx172_0)); clear hn172_0; clear hn172_1; replace p172 := eq_true p172; replace q172 := eq_true q172)); try go_wp2_with (first | ((with_reducible refine gate_dst (N := 8) rfl ?_); refine box_event ?hg (N := 8) ?hd (cs := #[.bool false, .int .i64 0]) (t := 67) ?hr ?_; (case hd => rfl); (case hg => rfl); (case hr => first | (go_simp; done) | (go_simp; rfl)); intro gb170 hg w27 hbox hb; have n0_ := am (Kd.R_below (rk HO_5) hb); have n1_ := bb BK162 hb; have n2_ := am (below_step pw hb); have n3_ := am (hbox); have n4_ := am (sz (w := w) hg pw); have n5_ := am (sz (w := w) hg pw); have n6_ := am (nl BK162 hg); have n7_ := am ((nl BK162 hg).symm); clear HO_5 BK162 HB; revert n0_ n1_ n2_ n3_ n4_ n5_ n6_ n7_; intro HO_5 BK162 HB BK170 GW170 GE170 NB162_170 NB170_162; clear hb hbox hg; have hnb28 := NB170_162.out; have hnc28 := NB162_170.out; have hcz29_0 : w27.cell? ⟨gb170, 0, none⟩ = some (.bool false) := bc BK170 0; have hcz29_1 : w27.cell? ⟨gb170, 1, none⟩ = some (.int .i64 0) := bc BK170 1; have hfz29_0 := blk_frozen BK170.out 0; have hfz29_1 := blk_frozen BK170.out 1; obtain ⟨Ao30, co30, eo30⟩ := Kd.R_slice HO_5.out; subst eo30; have p171 : 0 ≤ (x7_2 : Int) := od; have q171 : x7_2 < (y166.length : Int) := od; obtain ⟨ad171, e171, hx171_0⟩ := Kd.at_int (Kd.R_reads' HO_5.out).2.2 x7_2 p171 q171; cases e171; have hn171_0 : ad171.block ≠ gb170 := Kd.own_blk (Kd.R_ne HO_5.out BK170.out (by decide)); have hn171_1 : ad171.block ≠ gb170 := Kd.own_blk (Kd.R_ne HO_5.out BK170.out (by decide)); replace hx171_0 := (cell_far (p := ⟨gb170, 0, none⟩) (by first | (rw [add_block]; exact hn171_0) | (show (Addr.add _ _).block ≠ _; rw [add_block]; exact hn171_0) | exact hn171_0) (.bool true)).trans hx171_0; replace hx171_0 := (cell_far (p := ⟨gb170, 1, none⟩) (by first | (rw [add_block]; exact hn171_1) | (show (Addr.add _ _).block ≠ _; rw [add_block]; exact hn171_1) | exact hn171_1) (.int .i64 ((rd_T67 l0_1 (ji11)).f1))).trans hx171_0; (try have hy171_0 := fun (n_ : Nat) => (show ((((w27.drewN n_).setCell ⟨gb170, 0, none⟩ (.bool true)).setCell ⟨gb170, 1, none⟩ (.int .i64 ((rd_T67 l0_1 (ji11)).f1)))).cell? _ = some _ from hx171_0)); clear hn171_0; clear hn171_1; replace p171 := eq_true p171; replace q171 := eq_true q171; have p172 : 0 ≤ (x6_1 : Int) := od; have q172 : x6_1 < (y166.length : Int) := od; obtain ⟨ad172, e172, hx172_0⟩ := Kd.at_int (Kd.R_reads' HO_5.out).2.2 x6_1 p172 q172; obtain rfl : ad171 = ad172 := (by injection e172); have hn172_0 : ad171.block ≠ gb170 := Kd.own_blk (Kd.R_ne HO_5.out BK170.out (by decide)); have hn172_1 : ad171.block ≠ gb170 := Kd.own_blk (Kd.R_ne HO_5.out BK170.out (by decide)); replace hx172_0 := (cell_far (p := ⟨gb170, 0, none⟩) (by first | (rw [add_block]; exact hn172_0) | (show (Addr.add _ _).block ≠ _; rw [add_block]; exact hn172_0) | exact hn172_0) (.bool true)).trans hx172_0; replace hx172_0 := (cell_far (p := ⟨gb170, 1, none⟩) (by first | (rw [add_block]; exact hn172_1) | (show (Addr.add _ _).block ≠ _; rw [add_block]; exact hn172_1) | exact hn172_1) (.int .i64 ((rd_T67 l0_1 (ji11)).f1))).trans hx172_0; (try have hy172_0 := fun (n_ : Nat) => (show ((((w27.drewN n_).setCell ⟨gb170, 0, none⟩ (.bool true)).setCell ⟨gb170, 1, none⟩ (.int .i64 ((rd_T67 l0_1 (ji11)).f1)))).cell? _ = some _ from hx172_0)); clear hn172_0; clear hn172_1; replace p172 := eq_true p172; replace q172 := eq_true q172)))
               go_roundg k2
               case measure => have := HK1.out; have := HK2.out; omega
               case rel => exact ⟨(wrap64 (x7_2 + 1)), pr, H', ⟨by have := HK1.out; have := HK2.out; omega⟩, ⟨by (with_reducible repeat (first | apply Kd.R_alloc | apply Kd.R_drewN | apply Kd.R_drew)); exact Kd.R_mono (Kd.R_far (p := ⟨gb170, 1, none⟩) (Kd.R_far (p := ⟨gb170, 0, none⟩) (Kd.R_types HO_5.out BK170.out (by decide)) (fun _ hk => hk.2) (.bool true)) (fun _ hk => hk.2) (.int .i64 ((rd_T67 l0_1 (ji11)).f1))) (fun _ hk => trivial)⟩, ⟨by (with_reducible repeat (first | refine blk_drewN ?_ _ | refine blk_drew ?_ | refine blk_alloc ?_ _)); refine blk_far ?_ NB162_170.out _; (with_reducible repeat (first | refine blk_drewN ?_ _ | refine blk_drew ?_ | refine blk_alloc ?_ _)); refine blk_far ?_ NB162_170.out _; (with_reducible repeat (first | refine blk_drewN ?_ _ | refine blk_drew ?_ | refine blk_alloc ?_ _)); exact BK162.out⟩, ⟨pw⟩⟩
              rw [if_neg c19] at H; exact absurd H (by simp)
             rw [if_neg c18] at H; exact absurd H (by simp)
            rw [if_neg c17] at H; exact absurd H (by simp)
           rw [if_neg c16] at H; exact absurd H (by simp)
          replace c15 := Bool.eq_false_iff.mpr c15; subst c15
          have H1 : (R2_HasZone.l1 k2 y166 x6_1 (wrap64 (x7_2 + 1)) a0_0 l0_1) = some r := by rw [if_neg (show ¬ (false = true) by decide)] at H; exact H
          clear H; have H := H1; clear H1; have H' := am H; clear H; have hcz31_0 : wr.cell? ⟨gb162, 0, none⟩ = some (.int .i64 a0_0) := bc BK162 0; have hcz31_1 : wr.cell? ⟨gb162, 1, none⟩ = some (.slice A0_1 l0_1.length c0_1) := bc BK162 1; have hfz31_0 := blk_frozen BK162.out 0; have hfz31_1 := blk_frozen BK162.out 1; have p169 : 0 ≤ ((ji11) : Int) := od; have q169 : (ji11) < (l0_1.length : Int) := od; obtain ⟨ad169, e169, hx169_0, hx169_1⟩ := at_T67 HR0_1.out (ji11) p169 q169; (try rw [← Nbq14.out] at hx169_0); cases e169; replace hx169_0 := (HB.out.cell (World.block_lt_of_cell? w _ hx169_0)).trans hx169_0; replace hx169_1 := (HB.out.cell (World.block_lt_of_cell? w _ hx169_1)).trans hx169_1; replace p169 := eq_true p169; replace q169 := eq_true q169
          go_wp2_with (first | ((with_reducible refine gate_dst (N := 8) rfl ?_); refine box_event ?hg (N := 8) ?hd (cs := #[.bool false, .int .i64 0]) (t := 67) ?hr ?_; (case hd => rfl); (case hg => rfl); (case hr => first | (go_simp; done) | (go_simp; rfl)); intro gb170 hg w32 hbox hb; have n0_ := am (Kd.R_below (rk HO_5) hb); have n1_ := bb BK162 hb; have n2_ := am (below_step pw hb); have n3_ := am (hbox); have n4_ := am (sz (w := w) hg pw); have n5_ := am (sz (w := w) hg pw); have n6_ := am (nl BK162 hg); have n7_ := am ((nl BK162 hg).symm); clear HO_5 BK162 HB; revert n0_ n1_ n2_ n3_ n4_ n5_ n6_ n7_; intro HO_5 BK162 HB BK170 GW170 GE170 NB162_170 NB170_162; clear hb hbox hg; have hnb33 := NB170_162.out; have hnc33 := NB162_170.out; have hcz34_0 : w32.cell? ⟨gb170, 0, none⟩ = some (.bool false) := bc BK170 0; have hcz34_1 : w32.cell? ⟨gb170, 1, none⟩ = some (.int .i64 0) := bc BK170 1; have hfz34_0 := blk_frozen BK170.out 0; have hfz34_1 := blk_frozen BK170.out 1))
          repeat (go_quiet (first | ((with_reducible refine gate_dst (N := 8) rfl ?_); refine box_event ?hg (N := 8) ?hd (cs := #[.bool false, .int .i64 0]) (t := 67) ?hr ?_; (case hd => rfl); (case hg => rfl); (case hr => first | (go_simp; done) | (go_simp; rfl)); intro gb170 hg w32 hbox hb; have n0_ := am (Kd.R_below (rk HO_5) hb); have n1_ := bb BK162 hb; have n2_ := am (below_step pw hb); have n3_ := am (hbox); have n4_ := am (sz (w := w) hg pw); have n5_ := am (sz (w := w) hg pw); have n6_ := am (nl BK162 hg); have n7_ := am ((nl BK162 hg).symm); clear HO_5 BK162 HB; revert n0_ n1_ n2_ n3_ n4_ n5_ n6_ n7_; intro HO_5 BK162 HB BK170 GW170 GE170 NB162_170 NB170_162; clear hb hbox hg; have hnb33 := NB170_162.out; have hnc33 := NB162_170.out; have hcz34_0 : w32.cell? ⟨gb170, 0, none⟩ = some (.bool false) := bc BK170 0; have hcz34_1 : w32.cell? ⟨gb170, 1, none⟩ = some (.int .i64 0) := bc BK170 1; have hfz34_0 := blk_frozen BK170.out 0; have hfz34_1 := blk_frozen BK170.out 1)); try go_wp2_with (first | ((with_reducible refine gate_dst (N := 8) rfl ?_); refine box_event ?hg (N := 8) ?hd (cs := #[.bool false, .int .i64 0]) (t := 67) ?hr ?_; (case hd => rfl); (case hg => rfl); (case hr => first | (go_simp; done) | (go_simp; rfl)); intro gb170 hg w32 hbox hb; have n0_ := am (Kd.R_below (rk HO_5) hb); have n1_ := bb BK162 hb; have n2_ := am (below_step pw hb); have n3_ := am (hbox); have n4_ := am (sz (w := w) hg pw); have n5_ := am (sz (w := w) hg pw); have n6_ := am (nl BK162 hg); have n7_ := am ((nl BK162 hg).symm); clear HO_5 BK162 HB; revert n0_ n1_ n2_ n3_ n4_ n5_ n6_ n7_; intro HO_5 BK162 HB BK170 GW170 GE170 NB162_170 NB170_162; clear hb hbox hg; have hnb33 := NB170_162.out; have hnc33 := NB162_170.out; have hcz34_0 : w32.cell? ⟨gb170, 0, none⟩ = some (.bool false) := bc BK170 0; have hcz34_1 : w32.cell? ⟨gb170, 1, none⟩ = some (.int .i64 0) := bc BK170 1; have hfz34_0 := blk_frozen BK170.out 0; have hfz34_1 := blk_frozen BK170.out 1)))
          go_roundg k2
          case measure => have := HK1.out; have := HK2.out; omega
          case rel => exact ⟨(wrap64 (x7_2 + 1)), pr, H', ⟨by have := HK1.out; have := HK2.out; omega⟩, ⟨by (with_reducible repeat (first | apply Kd.R_alloc | apply Kd.R_drewN | apply Kd.R_drew)); exact Kd.R_mono (Kd.R_far (p := ⟨gb170, 1, none⟩) (Kd.R_far (p := ⟨gb170, 0, none⟩) (Kd.R_types HO_5.out BK170.out (by decide)) (fun _ hk => hk.2) (.bool false)) (fun _ hk => hk.2) (.int .i64 ((rd_T67 l0_1 (ji11)).f1))) (fun _ hk => trivial)⟩, ⟨by (with_reducible repeat (first | refine blk_drewN ?_ _ | refine blk_drew ?_ | refine blk_alloc ?_ _)); refine blk_far ?_ NB162_170.out _; (with_reducible repeat (first | refine blk_drewN ?_ _ | refine blk_drew ?_ | refine blk_alloc ?_ _)); refine blk_far ?_ NB162_170.out _; (with_reducible repeat (first | refine blk_drewN ?_ _ | refine blk_drew ?_ | refine blk_alloc ?_ _)); exact BK162.out⟩, ⟨pw⟩⟩
         rw [if_neg c13] at H; exact absurd H (by simp)
        rw [if_neg c12] at H; exact absurd H (by simp)
       rw [if_neg c10] at H; have c10b0 : decide (x7_2 ≤ a0_0) = false := decide_eq_false c10; clear c10; have H' := am H; clear H; have hcz35_0 : wr.cell? ⟨gb162, 0, none⟩ = some (.int .i64 a0_0) := bc BK162 0; have hcz35_1 : wr.cell? ⟨gb162, 1, none⟩ = some (.slice A0_1 l0_1.length c0_1) := bc BK162 1; have hfz35_0 := blk_frozen BK162.out 0; have hfz35_1 := blk_frozen BK162.out 1; go_wp2
       repeat (go_quiet (fail); try go_wp2)
       go_roundg k2
       case measure => have := HK1.out; have := HK2.out; omega
       case rel => exact ⟨(wrap64 (x6_1 + 1)), pr, H', ⟨by have := HK1.out; have := HK2.out; omega⟩, ⟨by (with_reducible repeat (first | apply Kd.R_alloc | apply Kd.R_drewN | apply Kd.R_drew)); exact HO_5.out⟩, ⟨pk⟩, ⟨pw⟩⟩
    rw [if_neg c8] at H; have c8b0 : decide (x6_1 ≤ a0_0) = false := decide_eq_false c8; clear c8; obtain rfl := Option.some.inj H; have hcz36_0 : wr.cell? ⟨gb162, 0, none⟩ = some (.int .i64 a0_0) := bc BK162 0; have hcz36_1 : wr.cell? ⟨gb162, 1, none⟩ = some (.slice A0_1 l0_1.length c0_1) := bc BK162 1; have hfz36_0 := blk_frozen BK162.out 0; have hfz36_1 := blk_frozen BK162.out 1; go_wp2
    repeat (go_quiet (fail); try go_wp2)
    go_ret; exact ⟨pe, pw⟩
 rw [if_neg c3] at H
 exact absurd H (by simp)

/-! ### L2_noZone: function 24 -/
def L2_noZone.f (a0_0 : Int) (l0_1 : List (S120)) : Option (Bool) := if a0_0 = 0 then (some ((l0_1.length : Int) == 0)) else (some false)
set_option maxHeartbeats 8000000 in
set_option maxRecDepth 100000 in
theorem L2_noZone.calls [EA] (a0_0 : Int) (A0_1 : Option Addr) (c0_1 : Nat) (l0_1 : List (S120)) (r : Bool) (w : World) (hr0_1 : Kd.C k120 w A0_1 l0_1.length l0_1) (hc0_1 : l0_1.length ≤ c0_1) (h : L2_noZone.f a0_0 l0_1 = some r) :
  Calls Tryd.prog 24 #[.agg #[.int .i64 a0_0, .slice A0_1 l0_1.length c0_1]] w fun e w' => e = .returned (.bool r) ∧ Below w.heap.size w w' := by
 have hu30 := Tryd.underlying30
 have HR0_1 := am hr0_1
 have HC0_1 := am hc0_1
 clear hr0_1 hc0_1
 have HB := am (Below.refl w.heap.size w)
 have H : (if a0_0 = 0 then (some ((l0_1.length : Int) == 0)) else (some false)) = some r := h
 clear h
 by_cases c2 : a0_0 = 0
 ·rw [if_pos c2] at H
  have c2b0 : (a0_0 == 0) = true := beq_iff_eq.mpr c2
  have c2b1 : (a0_0 != 0) = false := bne_eq_false_iff_eq.mpr c2
  clear c2
  obtain rfl := Option.some.inj H
  go_enter Tryd.func24, Tryd.ntmps24
  go_wp2_with (first | ((with_reducible refine gate_dst (N := 1) rfl ?_); (try (refine gate_guard (by rfl) ?_; dsimp only)); refine box_event ?hg (N := 1) ?hd (cs := #[.int .i64 a0_0, .slice A0_1 l0_1.length c0_1]) (t := 30) ?hr ?_; (case hd => rfl); (case hg => rfl); (case hr => first | (go_simp; done) | (go_simp; rfl)); intro gb173 hg w3 hbox hb; have n0_ := am (below_step pw hb); have n1_ := am (hbox); have n2_ := am (sz (w := w) hg pw); have n3_ := am (sz (w := w) hg pw); clear HB; revert n0_ n1_ n2_ n3_; intro HB BK173 GW173 GE173; clear hb hbox hg; have hcz4_0 : w3.cell? ⟨gb173, 0, none⟩ = some (.int .i64 a0_0) := bc BK173 0; have hcz4_1 : w3.cell? ⟨gb173, 1, none⟩ = some (.slice A0_1 l0_1.length c0_1) := bc BK173 1; have hfz4_0 := blk_frozen BK173.out 0; have hfz4_1 := blk_frozen BK173.out 1))
  go_ret
  exact ⟨pe, pw⟩
 rw [if_neg c2] at H
 have c2b0 : (a0_0 == 0) = false := beq_eq_false_iff_ne.mpr c2
 have c2b1 : (a0_0 != 0) = true := bne_iff_ne.mpr c2
 obtain rfl := Option.some.inj H
 go_enter Tryd.func24, Tryd.ntmps24
 go_wp2_with (first | ((with_reducible refine gate_dst (N := 1) rfl ?_); (try (refine gate_guard (by rfl) ?_; dsimp only)); refine box_event ?hg (N := 1) ?hd (cs := #[.int .i64 a0_0, .slice A0_1 l0_1.length c0_1]) (t := 30) ?hr ?_; (case hd => rfl); (case hg => rfl); (case hr => first | (go_simp; done) | (go_simp; rfl)); intro gb173 hg w5 hbox hb; have n0_ := am (below_step pw hb); have n1_ := am (hbox); have n2_ := am (sz (w := w) hg pw); have n3_ := am (sz (w := w) hg pw); clear HB; revert n0_ n1_ n2_ n3_; intro HB BK173 GW173 GE173; clear hb hbox hg; have hcz6_0 : w5.cell? ⟨gb173, 0, none⟩ = some (.int .i64 a0_0) := bc BK173 0; have hcz6_1 : w5.cell? ⟨gb173, 1, none⟩ = some (.slice A0_1 l0_1.length c0_1) := bc BK173 1; have hfz6_0 := blk_frozen BK173.out 0; have hfz6_1 := blk_frozen BK173.out 1))
 go_ret
 exact ⟨pe, pw⟩

/-! ### R2_Near: function 89 -/
def R2_Near.l0 : Nat → List (S67) → Int → Int → Option (Bool)
 | 0, _, _, _ => none
 | k + 1, x0, x1, x5 => if x5 < (x0.length : Int) then (if 0 ≤ x5 then ((R2_Far.f ((rd_T67 x0 x5).f1) x1).bind fun t175 => (if t175 = true then (some false) else (R2_Near.l0 k x0 x1 (wrap64 (x5 + 1))))) else (none)) else (some true)
def R2_Near.f (k : Nat) (l0 : List (S67)) (a1 : Int) : Option (Bool) := R2_Near.l0 k l0 a1 0
theorem R2_Near.mono_l : ∀ k, (∀ y0 y1 y2, LeO (R2_Near.l0 k y0 y1 y2) (R2_Near.l0 (k + 1) y0 y1 y2))
 | 0 => fun _ _ _ r h => by simp [R2_Near.l0] at h
 | k + 1 => by
  have ih0 := R2_Near.mono_l k
  intro y0 y1 y2
  unfold R2_Near.l0
  repeat' first
  | (with_reducible exact ih0 _ _ _)
  | (with_reducible exact LeO.refl _)
  | (with_reducible exact LeO.none _)
  | (with_reducible refine LeO.ite ?_ ?_)
  | (with_reducible refine LeO.bind ?_ (fun _ => ?_))
  | exact ih0 _ _ _
  | exact LeO.none _
  | refine LeO.ite ?_ ?_
  | refine LeO.bind ?_ (fun _ => ?_)
theorem R2_Near.mono : ∀ a0 a1 k, LeO (R2_Near.f k a0 a1) (R2_Near.f (k + 1) a0 a1) := by
 intro a0 a1 k
 have ih0 := R2_Near.mono_l k
 unfold R2_Near.f
 repeat' first
   | (with_reducible exact ih0 _ _ _)
   | (with_reducible exact LeO.refl _)
   | (with_reducible exact LeO.none _)
   | (with_reducible refine LeO.ite ?_ ?_)
   | (with_reducible refine LeO.bind ?_ (fun _ => ?_))
   | exact ih0 _ _ _
   | exact LeO.none _
   | refine LeO.ite ?_ ?_
   | refine LeO.bind ?_ (fun _ => ?_)
set_option maxHeartbeats 8000000 in
set_option maxRecDepth 100000 in
theorem R2_Near.calls [EA] (k : Nat) (A0 : Option Addr) (c0 : Nat) (l0 : List (S67)) (a1 : Int) (r : Bool) (w : World) (hr0 : Kd.C k67 w A0 l0.length l0) (hc0 : l0.length ≤ c0) (h : R2_Near.f k l0 a1 = some r) :
  Calls Tryd.prog 89 #[.slice A0 l0.length c0, .int .i64 a1] w fun e w' => e = .returned (.bool r) ∧ Drawn0 w w' := by
 have HR0 := am hr0
 have HC0 := am hc0
 clear hr0 hc0
 have H : (R2_Near.l0 k l0 a1 0) = some r := h
 clear h
 have H' := am H
 clear H
 go_enter Tryd.func89, Tryd.ntmps89
 go_wp2
 go_loopg [5] k (fun kq v5 w' => ∃ (x5_1 : Int), v5 = .int .i64 x5_1 ∧ Aside0 (R2_Near.l0 kq l0 a1 x5_1 = some r) ∧ Aside0 (kq ≤ k) ∧ Drawn0 w w')
 case atStart => exact ⟨(0), pr, H', ⟨Nat.le_refl _⟩, by repeat (first | exact Drawn0.refl _ | apply Drawn0.step)⟩
 case round =>
  clear H'
  (try clear p2)
  obtain ⟨x5_1, rfl, HA, HK1, ⟨m1, rfl⟩⟩ := hrel
  cases gk with
  | zero => exact absurd HA.out (by simp [R2_Near.l0])
  | succ k1 =>
   have H := HA.out; clear HA; simp only [R2_Near.l0] at H; by_cases c3 : x5_1 < (l0.length : Int)
   ·rw [if_pos c3] at H
    have c3b0 : decide (x5_1 < (l0.length : Int)) = true := decide_eq_true c3; clear c3; by_cases c4 : 0 ≤ x5_1
    ·rw [if_pos c4] at H
     have c4b0 : decide (0 ≤ x5_1) = true := decide_eq_true c4; clear c4; replace H := Option.bind_eq_some_iff.mp H; obtain ⟨t175, A50, H⟩ := H; replace H : (if t175 = true then (some false) else (R2_Near.l0 k1 l0 a1 (wrap64 (x5_1 + 1)))) = some r := H; have A5 := am A50; clear A50; by_cases c6 : t175 = true
     ·subst c6
      have H1 : (some false) = some r := by rw [if_pos rfl] at H; exact H
      clear H; have H := H1; clear H1; obtain rfl := Option.some.inj H; have p174 : 0 ≤ (x5_1 : Int) := od; have q174 : x5_1 < (l0.length : Int) := od; obtain ⟨ad174, e174, hx174_0, hx174_1⟩ := at_T67 HR0.out x5_1 p174 q174; cases e174; replace p174 := eq_true p174; replace q174 := eq_true q174; go_wp2_with (first | ((with_reducible refine gate_callee (f := 22) rfl ?_); refine goesL_ (some 19) rfl rfl Tryd.func22 kk rfl #[.int .i64 ((rd_T67 l0 x5_1).f1), .int .i64 a1] rfl (by (try simp only [List.map_toArray, List.map_cons, List.map_nil]); first | done | rfl | (simp only [List.length_drop, List.length_take]; rfl)) ?_; (with_reducible refine (R2_Far.calls ((rd_T67 l0 x5_1).f1) a1 true _ A5.out).mono ?_); rintro e w' ⟨rfl, ⟨nd, rfl⟩⟩; refine ⟨_, rfl, ?_⟩)); go_ret; exact ⟨by first | rfl | (simp; done) | (simp [*]; done), by repeat (first | exact Drawn0.refl _ | apply Drawn0.step)⟩
     replace c6 := Bool.eq_false_iff.mpr c6; subst c6
     have H1 : (R2_Near.l0 k1 l0 a1 (wrap64 (x5_1 + 1))) = some r := by rw [if_neg (show ¬ (false = true) by decide)] at H; exact H
     clear H; have H := H1; clear H1; have H' := am H; clear H; have p174 : 0 ≤ (x5_1 : Int) := od; have q174 : x5_1 < (l0.length : Int) := od; obtain ⟨ad174, e174, hx174_0, hx174_1⟩ := at_T67 HR0.out x5_1 p174 q174; cases e174; replace p174 := eq_true p174; replace q174 := eq_true q174; go_wp2_with (first | ((with_reducible refine gate_callee (f := 22) rfl ?_); refine goesL_ (some 19) rfl rfl Tryd.func22 kk rfl #[.int .i64 ((rd_T67 l0 x5_1).f1), .int .i64 a1] rfl (by (try simp only [List.map_toArray, List.map_cons, List.map_nil]); first | done | rfl | (simp only [List.length_drop, List.length_take]; rfl)) ?_; (with_reducible refine (R2_Far.calls ((rd_T67 l0 x5_1).f1) a1 false _ A5.out).mono ?_); rintro e w' ⟨rfl, ⟨nd, rfl⟩⟩; refine ⟨_, rfl, ?_⟩)); go_roundg k1
     case measure => have := HK1.out; omega
     case rel => exact ⟨(wrap64 (x5_1 + 1)), pr, H', ⟨by have := HK1.out; omega⟩, by repeat (first | exact Drawn0.refl _ | apply Drawn0.step)⟩
    rw [if_neg c4] at H; exact absurd H (by simp)
   rw [if_neg c3] at H; have c3b0 : decide (x5_1 < (l0.length : Int)) = false := decide_eq_false c3; clear c3; obtain rfl := Option.some.inj H; go_wp2; go_ret; exact ⟨by first | rfl | (simp; done) | (simp [*]; done), by repeat (first | exact Drawn0.refl _ | apply Drawn0.step)⟩

/-! ### L2_near: function 25 -/
def L2_near.f (k : Nat) (l0 : List (S67)) : Option (Bool) := if (l0.length : Int) ≤ 100 then ((R2_Near.f k l0 1048576).bind fun t176 => (some t176)) else (some false)
theorem L2_near.mono : ∀ a0 k, LeO (L2_near.f k a0) (L2_near.f (k + 1) a0) := by
 intro a0 k
 unfold L2_near.f
 repeat' first
   | (with_reducible exact R2_Near.mono _ _ _)
   | (with_reducible exact LeO.refl _)
   | (with_reducible exact LeO.none _)
   | (with_reducible refine LeO.ite ?_ ?_)
   | (with_reducible refine LeO.bind ?_ (fun _ => ?_))
   | exact R2_Near.mono _ _ _
   | exact LeO.none _
   | refine LeO.ite ?_ ?_
   | refine LeO.bind ?_ (fun _ => ?_)
set_option maxHeartbeats 8000000 in
set_option maxRecDepth 100000 in
theorem L2_near.calls [EA] (k : Nat) (A0 : Option Addr) (c0 : Nat) (l0 : List (S67)) (r : Bool) (w : World) (hr0 : Kd.C k67 w A0 l0.length l0) (hc0 : l0.length ≤ c0) (h : L2_near.f k l0 = some r) :
  Calls Tryd.prog 25 #[.slice A0 l0.length c0] w fun e w' => e = .returned (.bool r) ∧ Drawn0 w w' := by
 have HR0 := am hr0
 have HC0 := am hc0
 clear hr0 hc0
 have H : (if (l0.length : Int) ≤ 100 then ((R2_Near.f k l0 1048576).bind fun t176 => (some t176)) else (some false)) = some r := h
 clear h
 by_cases c2 : (l0.length : Int) ≤ 100
 ·rw [if_pos c2] at H
  have c2b0 : decide ((l0.length : Int) ≤ 100) = true := decide_eq_true c2
  have c2b1 : decide (l0.length ≤ 100) = true := decide_eq_true (by omega)
  clear c2
  replace H := Option.bind_eq_some_iff.mp H
  obtain ⟨t176, A30, H⟩ := H
  replace H : (some t176) = some r := H
  have A3 := am A30
  clear A30
  obtain rfl := Option.some.inj H
  go_enter Tryd.func25, Tryd.ntmps25
  go_wp2_with (first | (go_at_call 89; (with_reducible refine (R2_Near.calls k _ _ l0 1048576 t176 _ ?side1 ?side2 A3.out).mono ?_); (case side1 => repeat (first | exact HR0.out | (with_reducible refine Kd.C_alloc ?_ _) | (with_reducible refine Kd.C_drewN ?_ _) | (with_reducible refine Kd.C_drew ?_))); (case side2 => exact HC0.out); rintro e w' ⟨rfl, ⟨nd, rfl⟩⟩))
  go_ret
  exact ⟨by first | rfl | (simp; done) | (simp [*]; done), by repeat (first | exact Drawn0.refl _ | apply Drawn0.step)⟩
 rw [if_neg c2] at H
 have c2b0 : decide ((l0.length : Int) ≤ 100) = false := decide_eq_false c2
 have c2b1 : decide (l0.length ≤ 100) = false := decide_eq_false (by omega)
 clear c2
 obtain rfl := Option.some.inj H
 go_enter Tryd.func25, Tryd.ntmps25
 go_wp2
 go_ret
 exact ⟨by first | rfl | (simp; done) | (simp [*]; done), by repeat (first | exact Drawn0.refl _ | apply Drawn0.step)⟩

end Go.Proofs.YtcalcnfppnbooaaDoor.Z
