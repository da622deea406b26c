import Derived.Test.YtjpboodkmhikpaaDoorOrSp
import Derived.Test.YtjpboodkmhikpaaDoorOrEb
import Derived.Test.YtjpboodkmhikpaaDoorOrZ0
-- Written by wip/xprint.py (the session's program over the kit's print).
namespace Go.Proofs.YtjpboodkmhikpaaDoor.Z
open Go.RowKit Go.Proofs.YtjpboodkmhikpaaDoorW.PrintWords Go.Proofs.YtjpboodkmhikpaaDoorW.PrintLast Go.Proofs.YtjpboodkmhikpaaDoorW.PrintMore Go.Proofs.Rcg
attribute [local go_sem] max2_int min2_int max_two min_two max_three min_three max_four min_four   -- for this text's walks alone
set_option linter.unusedVariables false
set_option linter.unusedSimpArgs false

/-! ### L2_zoneOf: function 23 -/
def L2_zoneOf.l0 : Nat → Int → Int → List (S112) → Int → List (S42) → Option (Int × (List (S42)))
 | 0, _, _, _, _, _ => none
 | k + 1, x4, x147000, x147001, x149000, x149001 => if x4 < (x147001.length : Int) then (if 0 ≤ x4 then (if x149001.length < 8796093022208 then (L2_zoneOf.l0 k (wrap64 (x4 + 1)) x147000 x147001 x149000 (x149001 ++ [(⟨(rd_T112 x147001 x4).f0, (rd_T112 x147001 x4).f1⟩ : S42)])) else (none)) else (none)) else (some (x149000, x149001))
def L2_zoneOf.f (k : Nat) (a0_0 : Int) (l0_1 : List (S112)) : Option (Int × (List (S42))) := L2_zoneOf.l0 k 0 a0_0 l0_1 a0_0 ([] : List (S42))
theorem L2_zoneOf.mono_l : ∀ k, (∀ y0 y1 y2 y3 y4, LeO (L2_zoneOf.l0 k y0 y1 y2 y3 y4) (L2_zoneOf.l0 (k + 1) y0 y1 y2 y3 y4))
 | 0 => fun _ _ _ _ _ r h => by simp [L2_zoneOf.l0] at h
 | k + 1 => by
  have ih0 := L2_zoneOf.mono_l k
  intro y0 y1 y2 y3 y4
  unfold L2_zoneOf.l0
  repeat' first
  | (with_reducible exact ih0 _ _ _ _ _)
  | (with_reducible exact LeO.refl _)
  | (with_reducible exact LeO.none _)
  | (with_reducible refine LeO.ite ?_ ?_)
  | (with_reducible refine LeO.bind ?_ (fun _ => ?_))
  | exact ih0 _ _ _ _ _
  | exact LeO.none _
  | refine LeO.ite ?_ ?_
  | refine LeO.bind ?_ (fun _ => ?_)
theorem L2_zoneOf.mono : ∀ a0 a1 k, LeO (L2_zoneOf.f k a0 a1) (L2_zoneOf.f (k + 1) a0 a1) := by
 intro a0 a1 k
 have ih0 := L2_zoneOf.mono_l k
 unfold L2_zoneOf.f
 repeat' first
   | (with_reducible exact ih0 _ _ _ _ _)
   | (with_reducible exact LeO.refl _)
   | (with_reducible exact LeO.none _)
   | (with_reducible refine LeO.ite ?_ ?_)
   | (with_reducible refine LeO.bind ?_ (fun _ => ?_))
   | exact ih0 _ _ _ _ _
   | exact LeO.none _
   | refine LeO.ite ?_ ?_
   | refine LeO.bind ?_ (fun _ => ?_)
def L2_zoneOf.T5 : Bool × List (List Nat × List Nat) := (true, [([], []), ([0], [0]), ([], []), ([2], [2]), ([], []), ([3, 4], [3, 4]), ([5], [5]), ([6], [6]), ([], []), ([8], [8]), ([], []), ([9, 10], [9, 10]), ([11], [11]), ([12], [12]), ([7, 13], [7, 13]), ([14], [14]), ([1, 15], [1, 15]), ([0, 1, 2, 3, 4, 5, 6, 7, 8, 9, 10, 11, 12, 13, 14, 15, 16], []), ([17, 16, 16, 0, 1, 2, 3, 4, 5, 6, 7, 8, 9, 10, 11, 12, 13, 14, 15, 16], [16, 17])])
def L2_zoneOf.B5 : List Nat := [0, 1, 0, 4, 0, 28, 60, 124, 0, 256, 0, 1792, 3840, 7936, 16380, 32764, 65535, 131071, 262143]
theorem L2_zoneOf.tab5 : rtab .any (opsOf Tryd.f23 5) = L2_zoneOf.T5 := by kernel_rfl
theorem L2_zoneOf.bits5 : waitsOk L2_zoneOf.T5.2 L2_zoneOf.B5 = true := by kernel_rfl
set_option maxHeartbeats 8000000 in
set_option maxRecDepth 100000 in
theorem L2_zoneOf.calls [EA] (k : Nat) (a0_0 : Int) (A0_1 : Option Addr) (c0_1 : Nat) (l0_1 : List (S112)) (r1 : Int) (r2 : List (S42)) (w : World) (hr0_1 : Kd.C k112 w A0_1 l0_1.length l0_1) (hc0_1 : l0_1.length ≤ c0_1) (h : L2_zoneOf.f k a0_0 l0_1 = some (r1, r2)) :
  Calls Tryd.prog 23 #[.agg #[.int .i64 a0_0, .slice A0_1 l0_1.length c0_1]] w fun e w' => ∃ v1_ : Value, e = .returned (.agg #[.int .i64 r1, v1_]) ∧ Kd.R k42 42 w' w.heap.size (fun _ => True) v1_ r2 ∧ Below w.heap.size w w' := by
 have hu33 := Tryd.underlying33
 have hu37 := Tryd.underlying37
 have hu42 := Tryd.underlying42
 have HR0_1 := am hr0_1
 have HC0_1 := am hc0_1
 clear hr0_1 hc0_1
 have HB := am (Below.refl w.heap.size w)
 have H : (L2_zoneOf.l0 k 0 a0_0 l0_1 a0_0 ([] : List (S42))) = some (r1, r2) := h
 clear h
 have H' := am H
 clear H
 go_enter Tryd.func23, Tryd.ntmps23
 go_wp2_with (first | ((with_reducible refine gate_dst (N := 1) rfl ?_); refine box_event ?hg (N := 1) ?hd (cs := #[.int .i64 a0_0, .slice A0_1 l0_1.length c0_1]) (t := 33) ?hr ?_; (case hd => rfl); (case hg => rfl); (case hr => first | (go_simp; done) | (go_simp; rfl)); intro gb146 hg w2 hbox hb; have n0_ := am (below_step pw hb); have n1_ := am (hbox); have n2_ := am (sz (w := w) hg pw); have n3_ := am (sz (w := w) hg pw); clear HB; revert n0_ n1_ n2_ n3_; intro HB BK146 GW146 GE146; clear hb hbox hg) | ((with_reducible refine gate_dst (N := 2) rfl ?_); refine box_event ?hg (N := 2) ?hd (cs := #[.int .i64 0, .slice none 0 0]) (t := 37) ?hr ?_; (case hd => rfl); (case hg => rfl); (case hr => first | (go_simp; done) | (go_simp; rfl)); intro gb147 hg w3 hbox hb; have n0_ := bb BK146 hb; have n1_ := am (below_step pw hb); have n2_ := am (hbox); have n3_ := am (sz (w := w) hg pw); have n4_ := am (sz (w := w) hg pw); have n5_ := am (nl BK146 hg); have n6_ := am ((nl BK146 hg).symm); clear BK146 HB; revert n0_ n1_ n2_ n3_ n4_ n5_ n6_; intro BK146 HB BK147 GW147 GE147 NB146_147 NB147_146; clear hb hbox hg; have hnb4 := NB146_147.out; have hnc4 := NB147_146.out; have hcz5_0 : w3.cell? ⟨gb146, 0, none⟩ = some (.int .i64 a0_0) := bc BK146 0; have hcz5_1 : w3.cell? ⟨gb146, 1, none⟩ = some (.slice A0_1 l0_1.length c0_1) := bc BK146 1; have hfz5_0 := blk_frozen BK146.out 0; have hfz5_1 := blk_frozen BK146.out 1) | ((with_reducible refine gate_dst (N := 3) rfl ?_); refine box_event ?hg (N := 3) ?hd (cs := #[.int .i64 0, .slice none 0 0]) (t := 37) ?hr ?_; (case hd => rfl); (case hg => rfl); (case hr => first | (go_simp; done) | (go_simp; rfl)); intro gb148 hg w6 hbox hb; have n0_ := bb BK146 hb; have n1_ := bb BK147 hb; have n2_ := am (below_step pw hb); have n3_ := am (hbox); have n4_ := am (sz (w := w) hg pw); have n5_ := am (sz (w := w) hg pw); have n6_ := am (nl BK146 hg); have n7_ := am ((nl BK146 hg).symm); have n8_ := am (nl BK147 hg); have n9_ := am ((nl BK147 hg).symm); clear BK146 BK147 HB; revert n0_ n1_ n2_ n3_ n4_ n5_ n6_ n7_ n8_ n9_; intro BK146 BK147 HB BK148 GW148 GE148 NB146_148 NB148_146 NB147_148 NB148_147; clear hb hbox hg; have hnb7 := NB148_146.out; have hnc7 := NB146_148.out; have hnb8 := NB148_147.out; have hnc8 := NB147_148.out; have hcz9_0 : w6.cell? ⟨gb148, 0, none⟩ = some (.int .i64 0) := bc BK148 0; have hcz9_1 : w6.cell? ⟨gb148, 1, none⟩ = some (.slice none 0 0) := bc BK148 1; have hfz9_0 := blk_frozen BK148.out 0; have hfz9_1 := blk_frozen BK148.out 1))
 go_loopg [4] k (fun kq v4 w' => ∃ (x4_1 : Int) (x149001_1 : List (S42)) (u149001 : Value), v4 = .int .i64 x4_1 ∧ Aside0 (L2_zoneOf.l0 kq x4_1 a0_0 l0_1 a0_0 x149001_1 = some (r1, r2)) ∧ Aside0 (kq ≤ k) ∧ Aside0 (Kd.R k42 42 w' w.heap.size (fun _ => True) u149001 x149001_1) ∧ Aside0 (w'.heap[gb146]? = some (.cells #[.int .i64 a0_0, (.slice A0_1 l0_1.length c0_1)] 33 (0, 0))) ∧ Aside0 (w'.heap[gb147]? = some (.cells #[.int .i64 0, (.slice none 0 0)] 37 (0, 0))) ∧ Aside0 (w'.heap[gb148]? = some (.cells #[.int .i64 a0_0, u149001] 37 (0, 0))) ∧ Aside0 (Below w.heap.size w w'))
 case atStart => exact ⟨(0), (([] : List (S42))), (.slice none 0 0), pr, H', ⟨Nat.le_refl _⟩, ⟨by first | exact Kd.R_nil _ _ _ _ _ | exact Kd.N_nil _ _ _ _ _ | exact Kd.V_nil _ _ _ _ _ | exact Kd.Q_nil _ _ _ _ _ | exact Kd.S_nil _ _ _ _ _⟩, ⟨by (with_reducible repeat (first | refine blk_drewN ?_ _ | refine blk_drew ?_ | refine blk_alloc ?_ _)); refine blk_far ?_ NB146_148.out _; (with_reducible repeat (first | refine blk_drewN ?_ _ | refine blk_drew ?_ | refine blk_alloc ?_ _)); refine blk_far ?_ NB146_148.out _; (with_reducible repeat (first | refine blk_drewN ?_ _ | refine blk_drew ?_ | refine blk_alloc ?_ _)); exact BK146.out⟩, ⟨by (with_reducible repeat (first | refine blk_drewN ?_ _ | refine blk_drew ?_ | refine blk_alloc ?_ _)); refine blk_far ?_ NB147_148.out _; (with_reducible repeat (first | refine blk_drewN ?_ _ | refine blk_drew ?_ | refine blk_alloc ?_ _)); refine blk_far ?_ NB147_148.out _; (with_reducible repeat (first | refine blk_drewN ?_ _ | refine blk_drew ?_ | refine blk_alloc ?_ _)); exact BK147.out⟩, ⟨by (with_reducible repeat (first | refine blk_drewN ?_ _ | refine blk_drew ?_ | refine blk_alloc ?_ _)); refine blk_put (cs := #[.int .i64 a0_0, .slice none 0 0]) ?_ 1 _ rfl; (with_reducible repeat (first | refine blk_drewN ?_ _ | refine blk_drew ?_ | refine blk_alloc ?_ _)); refine blk_put (cs := #[.int .i64 0, .slice none 0 0]) ?_ 0 _ rfl; (with_reducible repeat (first | refine blk_drewN ?_ _ | refine blk_drew ?_ | refine blk_alloc ?_ _)); exact BK148.out⟩, ⟨pw⟩⟩
 case round =>
  clear H'
  (try clear c2)
  (try clear p2)
  (try clear c4)
  (try clear c7)
  (try clear c8)
  (try clear hcz5_0)
  (try clear hcz5_1)
  (try clear hcz9_0)
  (try clear hcz9_1)
  (try clear hfz5_0)
  (try clear hfz5_1)
  (try clear hfz9_0)
  (try clear hfz9_1)
  obtain ⟨x4_1, x149001_1, u149001, rfl, HA, HK1, HO_149001, BK146, BK147, BK148, HB⟩ := hrel
  cases gk with
  | zero => exact absurd HA.out (by simp [L2_zoneOf.l0])
  | succ k1 =>
   have H := HA.out; clear HA; simp only [L2_zoneOf.l0] at H; by_cases c10 : x4_1 < (l0_1.length : Int)
   ·rw [if_pos c10] at H
    have c10b0 : decide (x4_1 < (l0_1.length : Int)) = true := decide_eq_true c10; clear c10; by_cases c11 : 0 ≤ x4_1
    ·rw [if_pos c11] at H
     have c11b0 : decide (0 ≤ x4_1) = true := decide_eq_true c11; clear c11; by_cases c12 : x149001_1.length < 8796093022208
     ·rw [if_pos c12] at H
      have LMc12 := am c12; clear c12; obtain ⟨y151, hy151⟩ : ∃ y_ : List (S42), y_ = (x149001_1 ++ [(⟨(rd_T112 l0_1 x4_1).f0, (rd_T112 l0_1 x4_1).f1⟩ : S42)]) := ⟨_, rfl⟩
      replace H : (L2_zoneOf.l0 k1 (wrap64 (x4_1 + 1)) a0_0 l0_1 a0_0 y151) = some (r1, r2) := by first | (rw [hy151]; with_reducible exact H) | (have H2_ := (Option.bind_some _ _).symm.trans H; rw [hy151]; with_reducible exact H2_) | (have H2_ := (Option.bind_some _ _).symm.trans H; with_reducible exact H2_) | with_reducible exact H | (rw [hy151]; exact H) | exact H
      have Ny151 := am hy151; clear hy151; have H' := am H; clear H; have hnb13 := NB146_147.out; have hnc13 := NB147_146.out; have hnb14 := NB146_148.out; have hnc14 := NB148_146.out; have hcz15_0 : wr.cell? ⟨gb146, 0, none⟩ = some (.int .i64 a0_0) := bc BK146 0; have hcz15_1 : wr.cell? ⟨gb146, 1, none⟩ = some (.slice A0_1 l0_1.length c0_1) := bc BK146 1; have hfz15_0 := blk_frozen BK146.out 0; have hfz15_1 := blk_frozen BK146.out 1
      try go_wp2
      have n0_ := am (Kd.R_drew HO_149001.out); have n1_ := am (blk_drew BK146.out); have n2_ := am (blk_drew BK147.out); have n3_ := am (blk_drew BK148.out); have n4_ := am (below_drew1 HB.out); clear HO_149001 BK146 BK147 BK148 HB; revert n0_ n1_ n2_ n3_ n4_; intro HO_149001 BK146 BK147 BK148 HB; have p149 : 0 ≤ (x4_1 : Int) := od; have q149 : x4_1 < (l0_1.length : Int) := od; obtain ⟨ad149, e149, hx149_0, hx149_1⟩ := at_T112 HR0_1.out x4_1 p149 q149; have hw149_1 := hx149_1; have hw149_0 := hx149_0; cases e149; replace hx149_0 := (HB.out.cell (World.block_lt_of_cell? w _ hx149_0)).trans hx149_0; replace hx149_1 := (HB.out.cell (World.block_lt_of_cell? w _ hx149_1)).trans hx149_1; replace p149 := eq_true p149; replace q149 := eq_true q149; have p150 : 0 ≤ (x4_1 : Int) := od; have q150 : x4_1 < (l0_1.length : Int) := od; obtain ⟨ad150, e150, hx150_0, hx150_1⟩ := at_T112 HR0_1.out x4_1 p150 q150; have hw150_1 := hx150_1; have hw150_0 := hx150_0; obtain rfl : ad149 = ad150 := (by injection e150); replace hx150_0 := (HB.out.cell (World.block_lt_of_cell? w _ hx150_0)).trans hx150_0; replace hx150_1 := (HB.out.cell (World.block_lt_of_cell? w _ hx150_1)).trans hx150_1; replace p150 := eq_true p150; replace q150 := eq_true q150; refine start_ (n := 19) (S := fun w' => w'.cell? ⟨gb148, 0, none⟩ = some (.int .i64 a0_0) ∧ w'.cell? ⟨gb148, 1, none⟩ = some (u149001) ∧ w'.cell? ⟨gb146, 0, none⟩ = some (.int .i64 a0_0) ∧ w'.cell? ⟨gb146, 1, none⟩ = some (.slice (some ad149) l0_1.length c0_1) ∧ w'.cell? (ad149.add ((x4_1).toNat * 2)) = some (.bool ((rd_T112 l0_1 x4_1).f0)) ∧ w'.cell? ⟨(ad149.add ((x4_1).toNat * 2)).block, (ad149.add ((x4_1).toNat * 2)).off + 1, none⟩ = some (.int .i64 ((rd_T112 l0_1 x4_1).f1)) ∧ w'.cell? (ad149.add ((x4_1).toNat * 2)) = some (.bool ((rd_T112 l0_1 x4_1).f0)) ∧ w'.cell? ⟨(ad149.add ((x4_1).toNat * 2)).block, (ad149.add ((x4_1).toNat * 2)).off + 1, none⟩ = some (.int .i64 ((rd_T112 l0_1 x4_1).f1))) (ds := [18]) (bm 0 19) kk rfl rfl ⟨bc BK148 0, bc BK148 1, bc BK146 0, bc BK146 1, ((HB.out.cell (World.block_lt_of_cell? w _ hw149_0)).trans hw149_0), ((HB.out.cell (World.block_lt_of_cell? w _ hw149_1)).trans hw149_1), ((HB.out.cell (World.block_lt_of_cell? w _ hw150_0)).trans hw150_0), ((HB.out.cell (World.block_lt_of_cell? w _ hw150_1)).trans hw150_1)⟩ (fun hHeld => ?_); refine with_tabW L2_zoneOf.tab5 L2_zoneOf.bits5 (fun HT_ HW_ => ?_); generalize wr.drew = w16 at HO_149001 BK146 BK147 BK148 HB hx149_0 hx149_1 hx150_0 hx150_1 hHeld ⊢; refine pure_ (i := 0) (N := some 15) (v := ?_) (a' := ?_) (bm 1 19) rfl rfl (any_of HT_.out kk) (fun _ _ _ h => h) (Or.inl ⟨by rfl, ?_⟩) ?_ ?_; rotate_left; ·intro w'; go_simp; with_reducible rfl
      rotate_left; ·simp only [sp]; rfl
      refine pure_ (i := 2) (N := some 17) (v := ?_) (a' := ?_) #[true, false, true, false, false, false, false, false, false, false, false, false, false, false, false, false, false, false, false] rfl rfl (any_of HT_.out kk) (fun _ _ _ h => h) (Or.inl ⟨by rfl, ?_⟩) ?_ ?_; rotate_left; ·intro w'; go_simp; with_reducible rfl
      rotate_left; ·simp only [sp]; rfl
      refine pure_ (i := 4) (N := some 19) (v := ?_) (a' := ?_) #[true, false, true, false, true, false, false, false, false, false, false, false, false, false, false, false, false, false, false] rfl rfl (any_of HT_.out kk) (fun _ _ _ h => h) (Or.inl ⟨by rfl, ?_⟩) ?_ ?_; rotate_left; ·intro w'; go_simp; with_reducible rfl
      rotate_left; ·simp only [sp]; rfl
      refine pure_ (i := 8) (N := some 23) (v := ?_) (a' := ?_) #[true, false, true, false, true, false, false, false, true, false, false, false, false, false, false, false, false, false, false] rfl rfl (any_of HT_.out kk) (fun _ _ _ h => h) (Or.inl ⟨by rfl, ?_⟩) ?_ ?_; rotate_left; ·intro w'; go_simp; with_reducible rfl
      rotate_left; ·simp only [sp]; rfl
      refine pure_ (i := 10) (N := some 25) (v := ?_) (a' := ?_) #[true, false, true, false, true, false, false, false, true, false, true, false, false, false, false, false, false, false, false] rfl rfl (any_of HT_.out kk) (fun _ _ _ h => h) (Or.inl ⟨by rfl, ?_⟩) ?_ ?_; rotate_left; ·intro w'; go_simp; with_reducible rfl
      rotate_left; ·simp only [sp]; rfl
      refine take_ (i := 1) (N := some 16) (v := ?_) (a' := ?_) #[true, true, true, false, true, false, false, false, true, false, true, false, false, false, false, false, false, false, false] rfl rfl (take_ofW HT_.out HW_.out kk) (fun _ _ _ h => h) (Or.inl ⟨by rfl, ?_⟩) hHeld ?_ ?_; rotate_left; ·rintro w' ⟨s0, s1, s2, s3, s4, s5, s6, s7⟩; go_simp; with_reducible rfl
      rotate_left; ·simp only [sp]; rfl
      refine take_ (i := 3) (N := some 18) (v := ?_) (a' := ?_) #[true, true, true, true, true, false, false, false, true, false, true, false, false, false, false, false, false, false, false] rfl rfl (take_ofW HT_.out HW_.out kk) (fun _ _ _ h => h) (Or.inl ⟨by rfl, ?_⟩) hHeld ?_ ?_; rotate_left; ·rintro w' ⟨s0, s1, s2, s3, s4, s5, s6, s7⟩; go_simp; with_reducible rfl
      rotate_left; ·simp only [sp]; rfl
      refine pure_ (i := 5) (N := some 20) (v := ?_) (a' := ?_) #[true, true, true, true, true, true, false, false, true, false, true, false, false, false, false, false, false, false, false] rfl rfl (any_of HT_.out kk) (fun _ _ _ h => h) (Or.inl ⟨by rfl, ?_⟩) ?_ ?_; rotate_left; ·intro w'; go_simp; with_reducible rfl
      rotate_left; ·simp only [sp]; rfl
      refine pure_ (i := 6) (N := some 21) (v := ?_) (a' := ?_) #[true, true, true, true, true, true, true, false, true, false, true, false, false, false, false, false, false, false, false] rfl rfl (any_of HT_.out kk) (fun _ _ _ h => h) (Or.inl ⟨by rfl, ?_⟩) ?_ ?_; rotate_left; ·intro w'; go_simp; with_reducible rfl
      rotate_left; ·simp only [sp]; rfl
      refine take_ (i := 7) (N := some 22) (v := ?_) (a' := ?_) #[true, true, true, true, true, true, true, true, true, false, true, false, false, false, false, false, false, false, false] rfl rfl (take_ofW HT_.out HW_.out kk) (fun _ _ _ h => h) (Or.inl ⟨by rfl, ?_⟩) hHeld ?_ ?_; rotate_left; ·rintro w' ⟨s0, s1, s2, s3, s4, s5, s6, s7⟩; go_simp; with_reducible rfl
      rotate_left; ·simp only [sp]; rfl
      refine take_ (i := 9) (N := some 24) (v := ?_) (a' := ?_) (bm 11 19) rfl rfl (take_ofW HT_.out HW_.out kk) (fun _ _ _ h => h) (Or.inl ⟨by rfl, ?_⟩) hHeld ?_ ?_; rotate_left; ·rintro w' ⟨s0, s1, s2, s3, s4, s5, s6, s7⟩; go_simp; with_reducible rfl
      rotate_left; ·simp only [sp]; rfl
      refine pure_ (i := 11) (N := some 26) (v := ?_) (a' := ?_) (bm 12 19) rfl rfl (any_of HT_.out kk) (fun _ _ _ h => h) (Or.inl ⟨by rfl, ?_⟩) ?_ ?_; rotate_left; ·intro w'; go_simp; with_reducible rfl
      rotate_left; ·simp only [sp]; rfl
      refine pure_ (i := 12) (N := some 27) (v := ?_) (a' := ?_) (bm 13 19) rfl rfl (any_of HT_.out kk) (fun _ _ _ h => h) (Or.inl ⟨by rfl, ?_⟩) ?_ ?_; rotate_left; ·intro w'; go_simp; with_reducible rfl
      rotate_left; ·simp only [sp]; rfl
      refine take_ (i := 13) (N := some 28) (v := ?_) (a' := ?_) (bm 14 19) rfl rfl (take_ofW HT_.out HW_.out kk) (fun _ _ _ h => h) (Or.inl ⟨by rfl, ?_⟩) hHeld ?_ ?_; rotate_left; ·rintro w' ⟨s0, s1, s2, s3, s4, s5, s6, s7⟩; go_simp; with_reducible rfl
      rotate_left; ·simp only [sp]; rfl
      refine pure_ (i := 14) (N := some 29) (v := ?_) (a' := ?_) (bm 15 19) rfl rfl (any_of HT_.out kk) (fun _ _ _ h => h) (Or.inl ⟨by rfl, ?_⟩) ?_ ?_; rotate_left; ·intro w'; go_simp; with_reducible rfl
      rotate_left; ·simp only [sp]; rfl
      refine one_ (i := 15) (N := some 30) (bm 16 19) rfl rfl (one_of HT_.out kk) (by decide) (fun K hK => ?_); refine value_ (w1 := ?_) (v := ?_) (by rfl) rfl ?_ ?_; rotate_left 2
      ·go_simp
       constructor
       ·rfl
       rfl
      refine hK.out _ _ ⟨(blk_cell (blk_alloc BK148.out _) 0).trans rfl, (blk_cell (blk_alloc BK148.out _) 1).trans rfl, (blk_cell (blk_alloc BK146.out _) 0).trans rfl, (blk_cell (blk_alloc BK146.out _) 1).trans rfl, (World.cell?_alloc_lt _ _ _ (World.block_lt_of_cell? _ _ (((HB.out.cell (World.block_lt_of_cell? w _ hw149_0)).trans hw149_0)))).trans (((HB.out.cell (World.block_lt_of_cell? w _ hw149_0)).trans hw149_0)), (World.cell?_alloc_lt _ _ _ (World.block_lt_of_cell? _ _ (((HB.out.cell (World.block_lt_of_cell? w _ hw149_1)).trans hw149_1)))).trans (((HB.out.cell (World.block_lt_of_cell? w _ hw149_1)).trans hw149_1)), (World.cell?_alloc_lt _ _ _ (World.block_lt_of_cell? _ _ (((HB.out.cell (World.block_lt_of_cell? w _ hw150_0)).trans hw150_0)))).trans (((HB.out.cell (World.block_lt_of_cell? w _ hw150_0)).trans hw150_0)), (World.cell?_alloc_lt _ _ _ (World.block_lt_of_cell? _ _ (((HB.out.cell (World.block_lt_of_cell? w _ hw150_1)).trans hw150_1)))).trans (((HB.out.cell (World.block_lt_of_cell? w _ hw150_1)).trans hw150_1))⟩ (fun hHeld => ?_); clear hK K; refine norm_ (a' := ?_) ?_ ?_; rotate_left
      ·show Act.put _ (some 30) _ = _
       simp only [sp]; rfl
      refine one_ (i := 16) (N := some 31) (bm 17 19) rfl rfl (one_of HT_.out kk) (by decide) (fun K hK => ?_); refine Kd.R_append_step k42 (w0 := w) w.heap.size (by rfl) (.tmp 16) (.tmp 30) 35 42 (.agg #[(.bool false), (.int .i64 0)]) 16 rfl Tryd.underlying35 info42 rfl (by decide) (by omega) u149001 x149001_1 (⟨(rd_T112 l0_1 x4_1).f0, (rd_T112 l0_1 x4_1).f1⟩ : S42) [.bool ((rd_T112 l0_1 x4_1).f0), .int .i64 ((rd_T112 l0_1 x4_1).f1)] (fun _ => True) (fun _ => False) rfl rfl ?aP (fun _ hk => hk.elim) ?aF ?aO ?aB ?aS ?aL ?_
      (case aP => exact k42_mkM _ _ _ (⟨(rd_T112 l0_1 x4_1).f0, (rd_T112 l0_1 x4_1).f1⟩ : S42))
      (case aB => exact pw)
      (case aF => exact (fun _ _ => trivial))
      (case aO => exact (rk HO_149001))
      (case aS => exact (below_size pw))
      (case aL => have := LMc12.out; omega); intro v152 w17 ho hb hg hat; rw [← Ny151.out] at ho; have n0_ := am (blk_grown (g := gb146) (o := .cells #[.int .i64 a0_0, .slice (some ad149) l0_1.length c0_1] 33 (0, 0)) pk hg (Kd.R_ne HO_149001.out BK146.out (by decide))); have n1_ := am (blk_grown (g := gb147) (o := .cells #[.int .i64 0, .slice none 0 0] 37 (0, 0)) pk hg (Kd.R_ne HO_149001.out BK147.out (by decide))); have n2_ := am (blk_grown (g := gb148) (o := .cells #[.int .i64 a0_0, u149001] 37 (0, 0)) pk hg (Kd.R_ne HO_149001.out BK148.out (by decide))); have n3_ := am (hb); have n4_ := am (ho); clear BK146 BK147 BK148 HB HO_149001; revert n0_ n1_ n2_ n3_ n4_; intro BK146 BK147 BK148 HB HO153; clear ho hb hg hat; obtain ⟨Ao18, co18, eo18⟩ := Kd.R_slice HO153.out; (first | subst eo18 | (injection eo18 with f1_ f2_ f3_; have f4_ := f1_.symm; have f5_ := f3_.symm; clear f1_ f2_ f3_; subst f4_; subst f5_)); refine hK.out _ _ ⟨bc BK148 0, bc BK148 1, bc BK146 0, bc BK146 1, ((HB.out.cell (World.block_lt_of_cell? w _ hw149_0)).trans hw149_0), ((HB.out.cell (World.block_lt_of_cell? w _ hw149_1)).trans hw149_1), ((HB.out.cell (World.block_lt_of_cell? w _ hw150_0)).trans hw150_0), ((HB.out.cell (World.block_lt_of_cell? w _ hw150_1)).trans hw150_1)⟩ (fun hHeld => ?_); clear hK K; refine norm_ (a' := ?_) ?_ ?_; rotate_left
      ·show Act.put _ (some 31) _ = _
       simp only [sp]; rfl
      refine pure_ (i := 17) (N := some 32) (v := ?_) (a' := ?_) (bm 18 19) rfl rfl (any_of HT_.out kk) (fun _ _ _ h => h) (Or.inl ⟨by rfl, ?_⟩) ?_ ?_; rotate_left; ·intro w'; go_simp; with_reducible rfl
      rotate_left; ·simp only [sp]; rfl
      refine last_ (i := 18) (N := none) (bm 19 19) rfl rfl (one_of HT_.out kk) (by decide) (fun K hK => ?_); have hs19 : w17.cell? ⟨gb148, 1, none⟩ = some (u149001) := bc BK148 1; have hfs19 := blk_frozen BK148.out 1; have hns19_0 := NB146_148.out; have hns19_1 := NB147_148.out; have hms19_0 := NB148_146.out; have hms19_1 := NB148_147.out; refine skip_ (w1 := ?_) (by rfl) rfl ?_ ?_; rotate_left
      ·go_simp
       rfl
      refine hK.out _ _ ?_; clear hK K; refine done_ (done_of HT_.out kk) ?_; (try simp only [errW_none, errW_some])
      try go_wp2
      go_roundg k1
      case measure => have := HK1.out; omega
      case rel => exact ⟨(wrap64 (x4_1 + 1)), (y151), (.slice Ao18 y151.length co18), pr, H', ⟨by have := HK1.out; omega⟩, ⟨by (with_reducible repeat (first | apply Kd.R_alloc | apply Kd.R_drewN | apply Kd.R_drew)); exact Kd.R_mono (Kd.R_far (p := ⟨gb148, 1, none⟩) (Kd.R_types HO153.out BK148.out (by decide)) (fun _ hk => hk.2) (.slice Ao18 y151.length co18)) (fun _ hk => trivial)⟩, ⟨by (with_reducible repeat (first | refine blk_drewN ?_ _ | refine blk_drew ?_ | refine blk_alloc ?_ _)); refine blk_far ?_ NB146_148.out _; (with_reducible repeat (first | refine blk_drewN ?_ _ | refine blk_drew ?_ | refine blk_alloc ?_ _)); exact BK146.out⟩, ⟨by (with_reducible repeat (first | refine blk_drewN ?_ _ | refine blk_drew ?_ | refine blk_alloc ?_ _)); refine blk_far ?_ NB147_148.out _; (with_reducible repeat (first | refine blk_drewN ?_ _ | refine blk_drew ?_ | refine blk_alloc ?_ _)); exact BK147.out⟩, ⟨by (with_reducible repeat (first | refine blk_drewN ?_ _ | refine blk_drew ?_ | refine blk_alloc ?_ _)); refine blk_put (cs := #[.int .i64 a0_0, u149001]) ?_ 1 _ rfl; (with_reducible repeat (first | refine blk_drewN ?_ _ | refine blk_drew ?_ | refine blk_alloc ?_ _)); exact BK148.out⟩, ⟨pw⟩⟩
     rw [if_neg c12] at H; exact absurd H (by simp)
    rw [if_neg c11] at H; exact absurd H (by simp)
   rw [if_neg c10] at H; have c10b0 : decide (x4_1 < (l0_1.length : Int)) = false := decide_eq_false c10; clear c10; simp only [Option.some.injEq, Prod.mk.injEq] at H; obtain ⟨rfl, rfl⟩ := H; have hnb20 := NB146_147.out; have hnc20 := NB147_146.out; have hnb21 := NB146_148.out; have hnc21 := NB148_146.out; have hcz22_0 : wr.cell? ⟨gb146, 0, none⟩ = some (.int .i64 a0_0) := bc BK146 0; have hcz22_1 : wr.cell? ⟨gb146, 1, none⟩ = some (.slice A0_1 l0_1.length c0_1) := bc BK146 1; have hfz22_0 := blk_frozen BK146.out 0; have hfz22_1 := blk_frozen BK146.out 1; have hnb23 := NB148_147.out; have hnc23 := NB147_148.out; have hcz24_0 : wr.cell? ⟨gb148, 0, none⟩ = some (.int .i64 a0_0) := bc BK148 0; have hcz24_1 : wr.cell? ⟨gb148, 1, none⟩ = some (u149001) := bc BK148 1; have hfz24_0 := blk_frozen BK148.out 0; have hfz24_1 := blk_frozen BK148.out 1; have hcz25_0 : wr.cell? ⟨gb147, 0, none⟩ = some (.int .i64 0) := bc BK147 0; have hcz25_1 : wr.cell? ⟨gb147, 1, none⟩ = some (.slice none 0 0) := bc BK147 1; have hfz25_0 := blk_frozen BK147.out 0; have hfz25_1 := blk_frozen BK147.out 1; obtain ⟨Ao26, co26, eo26⟩ := Kd.R_slice HO_149001.out; subst eo26; go_wp2; refine bodyPost_ret (results_cell_row rfl _ _ gb147 37 #[.int .i64 a0_0, .slice Ao26 x149001_1.length co26] (0, 0) _ rfl (by (with_reducible repeat (first | refine blk_drewN ?_ _ | refine blk_drew ?_ | refine blk_alloc ?_ _)); refine blk_put (cs := #[.int .i64 a0_0, .slice none 0 0]) ?_ 1 _ rfl; (with_reducible repeat (first | refine blk_drewN ?_ _ | refine blk_drew ?_ | refine blk_alloc ?_ _)); refine blk_put (cs := #[.int .i64 0, .slice none 0 0]) ?_ 0 _ rfl; (with_reducible repeat (first | refine blk_drewN ?_ _ | refine blk_drew ?_ | refine blk_alloc ?_ _)); exact BK147.out) Tryd.underlying37 rfl kk) rfl ?_; exact ⟨_, pe, by (with_reducible repeat (first | apply Kd.R_alloc | apply Kd.R_drewN | apply Kd.R_drew)); exact Kd.R_mono (Kd.R_far (p := ⟨gb147, 1, none⟩) (Kd.R_far (p := ⟨gb147, 0, none⟩) (Kd.R_types HO_149001.out BK147.out (by decide)) (fun _ hk => hk.2) (.int .i64 a0_0)) (fun _ hk => hk.2) (.slice Ao26 x149001_1.length co26)) (fun _ hk => trivial), pw⟩

end Go.Proofs.YtjpboodkmhikpaaDoor.Z
