-- Written by wip/xprint.py (the session's program over the kit's print).
import Derived.Test.YtjpboodkmhikpaaDoorEb
import Derived.Test.YtjpboodkmhikpaaDoorFldO
import Derived.Test.YtjpboodkmhikpaaDoorQk
import Derived.Test.YtjpboodkmhikpaaDoorZ0
import Derived.Test.YtjpboodkmhikpaaDoorZ13
import Derived.Test.YtjpboodkmhikpaaDoorZ14
namespace Go.Proofs.YtjpboodkmhikpaaDoor.Z
open Go.RowKit Go.Proofs.YtjpboodkmhikpaaDoorW.PrintWords Go.Proofs.YtjpboodkmhikpaaDoorW.PrintLast Go.Proofs.YtjpboodkmhikpaaDoorW.PrintMore Go.Proofs.Rcg Go.Proofs.Rco
attribute [local go_sem] Go.Proofs.Rcg.fld_oct1 Go.Proofs.Rcg.fld_roct1 max2_int min2_int max_two min_two max_three min_three max_four min_four   -- for this text's walks alone
set_option linter.unusedVariables false
set_option linter.unusedSimpArgs false

/-! ### L2_OctStays: function 10 -/
mutual
def L2_OctStays.j0 : Nat → List (S78) → Bool → Bool → Int → List (S112) → Option (Bool)
 | 0, _, _, _, _, _ => none
 | k + 1, x1, x5, x24, x494000, x494001 => if x24 = true then (some x5) else ((L2_octOf.f k x494000 x494001).bind fun bt495 => (L2_OctStays.l0 k x1 0 0 x494000 x494001 bt495.1 bt495.2))
def L2_OctStays.l0 : Nat → List (S78) → Int → Int → Int → List (S112) → Int → List (S95) → Option (Bool)
 | 0, _, _, _, _, _, _, _ => none
 | k + 1, x1, x7, x8, x494000, x494001, x500000, x500001 => if x8 < (x1.length : Int) then (if 0 ≤ x8 then (if (((rd_T78 x1 x8).f1).length : Int) > 100 then (some true) else ((L2_octOf.f k ((rd_T78 x1 x8).f0) ((rd_T78 x1 x8).f1)).bind fun bt502 => ((octagon_Widen.f x500000 x500001 bt502.1 bt502.2).bind fun bt506 => (if bt506.2.2.isNone = true then ((L2_octBack.f k x500000 x500001).bind fun bt513 => ((L2_isOct.f k bt506.1 bt506.2.1 bt513.1 bt513.2).bind fun t517 => (if t517 = true then (L2_OctStays.l0 k x1 x7 (wrap64 (x8 + 1)) x494000 x494001 bt506.1 bt506.2.1) else (L2_OctStays.l0 k x1 (wrap64 (x7 + 1)) (wrap64 (x8 + 1)) x494000 x494001 bt506.1 bt506.2.1)))) else (some true))))) else (none)) else (if x7 ≤ (wrap64 ((x494001.length : Int) + 1)) then (some true) else (none))
end
def L2_OctStays.f (k : Nat) (a0_0 : Int) (l0_1 : List (S112)) (l1 : List (S78)) : Option (Bool) := (L2_odd.f k).bind fun t494 => (if t494 = true then (if (l0_1.length : Int) > 100 then (L2_OctStays.j0 k l1 t494 true a0_0 l0_1) else (L2_OctStays.j0 k l1 t494 (decide ((l1.length : Int) > 40)) a0_0 l0_1)) else (L2_OctStays.j0 k l1 t494 true a0_0 l0_1))
theorem L2_OctStays.mono_l : ∀ k, (∀ y0 y1 y2 y3 y4, LeO (L2_OctStays.j0 k y0 y1 y2 y3 y4) (L2_OctStays.j0 (k + 1) y0 y1 y2 y3 y4)) ∧ (∀ y0 y1 y2 y3 y4 y5 y6, LeO (L2_OctStays.l0 k y0 y1 y2 y3 y4 y5 y6) (L2_OctStays.l0 (k + 1) y0 y1 y2 y3 y4 y5 y6))
 | 0 => ⟨fun _ _ _ _ _ r h => by simp [L2_OctStays.j0] at h, fun _ _ _ _ _ _ _ r h => by simp [L2_OctStays.l0] at h⟩
 | k + 1 => by
  obtain ⟨ih0, ih1⟩ := L2_OctStays.mono_l k
  refine ⟨?_, ?_⟩
  ·intro y0 y1 y2 y3 y4
   unfold L2_OctStays.j0
   repeat' first
   | (with_reducible exact ih0 _ _ _ _ _)
   | (with_reducible exact ih1 _ _ _ _ _ _ _)
   | (with_reducible exact L2_isOct.mono _ _ _ _ _)
   | (with_reducible exact L2_octBack.mono _ _ _)
   | (with_reducible exact L2_octOf.mono _ _ _)
   | (with_reducible exact L2_odd.mono _)
   | (with_reducible exact LeO.refl _)
   | (with_reducible exact LeO.none _)
   | (with_reducible refine LeO.ite ?_ ?_)
   | (with_reducible refine LeO.bind ?_ (fun _ => ?_))
   | exact ih0 _ _ _ _ _
   | exact ih1 _ _ _ _ _ _ _
   | exact L2_isOct.mono _ _ _ _ _
   | exact L2_octBack.mono _ _ _
   | exact L2_octOf.mono _ _ _
   | exact L2_odd.mono _
   | exact LeO.none _
   | refine LeO.ite ?_ ?_
   | refine LeO.bind ?_ (fun _ => ?_)
  intro y0 y1 y2 y3 y4 y5 y6
  unfold L2_OctStays.l0
  repeat' first
  | (with_reducible exact ih0 _ _ _ _ _)
  | (with_reducible exact ih1 _ _ _ _ _ _ _)
  | (with_reducible exact L2_isOct.mono _ _ _ _ _)
  | (with_reducible exact L2_octBack.mono _ _ _)
  | (with_reducible exact L2_octOf.mono _ _ _)
  | (with_reducible exact L2_odd.mono _)
  | (with_reducible exact LeO.refl _)
  | (with_reducible exact LeO.none _)
  | (with_reducible refine LeO.ite ?_ ?_)
  | (with_reducible refine LeO.bind ?_ (fun _ => ?_))
  | exact ih0 _ _ _ _ _
  | exact ih1 _ _ _ _ _ _ _
  | exact L2_isOct.mono _ _ _ _ _
  | exact L2_octBack.mono _ _ _
  | exact L2_octOf.mono _ _ _
  | exact L2_odd.mono _
  | exact LeO.none _
  | refine LeO.ite ?_ ?_
  | refine LeO.bind ?_ (fun _ => ?_)
theorem L2_OctStays.mono : ∀ a0 a1 a2 k, LeO (L2_OctStays.f k a0 a1 a2) (L2_OctStays.f (k + 1) a0 a1 a2) := by
 intro a0 a1 a2 k
 obtain ⟨ih0, ih1⟩ := L2_OctStays.mono_l k
 unfold L2_OctStays.f
 repeat' first
   | (with_reducible exact ih0 _ _ _ _ _)
   | (with_reducible exact ih1 _ _ _ _ _ _ _)
   | (with_reducible exact L2_isOct.mono _ _ _ _ _)
   | (with_reducible exact L2_octBack.mono _ _ _)
   | (with_reducible exact L2_octOf.mono _ _ _)
   | (with_reducible exact L2_odd.mono _)
   | (with_reducible exact LeO.refl _)
   | (with_reducible exact LeO.none _)
   | (with_reducible refine LeO.ite ?_ ?_)
   | (with_reducible refine LeO.bind ?_ (fun _ => ?_))
   | exact ih0 _ _ _ _ _
   | exact ih1 _ _ _ _ _ _ _
   | exact L2_isOct.mono _ _ _ _ _
   | exact L2_octBack.mono _ _ _
   | exact L2_octOf.mono _ _ _
   | exact L2_odd.mono _
   | exact LeO.none _
   | refine LeO.ite ?_ ?_
   | refine LeO.bind ?_ (fun _ => ?_)
def L2_OctStays.T11 : Bool × List (List Nat × List Nat) := (true, [([], []), ([], []), ([], []), ([1, 2], [1, 2]), ([3], [3]), ([4], [4]), ([0, 5, 5], [0, 5]), ([6], [6]), ([7], [7]), ([7], [7]), ([], []), ([10, 8, 6, 0, 1, 2, 3, 4, 5, 6, 7, 8, 10], [8, 10]), ([9, 11, 0, 1, 2, 3, 4, 5, 6, 7, 8, 9, 10, 11], [9])])
def L2_OctStays.B11 : List Nat := [0, 0, 0, 6, 14, 30, 63, 127, 255, 255, 0, 1535, 4095]
theorem L2_OctStays.tab11 : rtab .any (opsOf Tryd.f10 11) = L2_OctStays.T11 := by kernel_rfl
theorem L2_OctStays.bits11 : waitsOk L2_OctStays.T11.2 L2_OctStays.B11 = true := by kernel_rfl
set_option maxHeartbeats 8000000 in
set_option maxRecDepth 100000 in
theorem L2_OctStays.calls [EA] (k : Nat) (a0_0 : Int) (A0_1 : Option Addr) (c0_1 : Nat) (l0_1 : List (S112)) (A1 : Option Addr) (c1 : Nat) (l1 : List (S78)) (r : Bool) (w : World) (hr0_1 : Kd.C k112 w A0_1 l0_1.length l0_1) (hc0_1 : l0_1.length ≤ c0_1) (hr1 : Kd.C k78 w A1 l1.length l1) (hc1 : l1.length ≤ c1) (h : L2_OctStays.f k a0_0 l0_1 l1 = some r) (h2_ : ErrAt 2 1 w) (h3_ : ErrAt 3 0 w) (h7_ : ErrAt 7 4 w) :
  Calls Tryd.prog 10 #[.agg #[.int .i64 a0_0, .slice A0_1 l0_1.length c0_1], .slice A1 l1.length c1] w fun e w' => e = .returned (.bool r) ∧ Below w.heap.size w w' := by
 have hE2 := am h2_
 clear h2_
 have hE3 := am h3_
 clear h3_
 have hE7 := am h7_
 clear h7_
 have hu78 := Tryd.underlying78
 have hu82 := Tryd.underlying82
 have hu26 := Tryd.underlying26
 have HR0_1 := am hr0_1
 have HC0_1 := am hc0_1
 clear hr0_1 hc0_1
 have HR1 := am hr1
 have HC1 := am hc1
 clear hr1 hc1
 have HB := am (Below.refl w.heap.size w)
 have H : ((L2_odd.f k).bind fun t494 => (if t494 = true then (if (l0_1.length : Int) > 100 then (L2_OctStays.j0 k l1 t494 true a0_0 l0_1) else (L2_OctStays.j0 k l1 t494 (decide ((l1.length : Int) > 40)) a0_0 l0_1)) else (L2_OctStays.j0 k l1 t494 true a0_0 l0_1))) = some r := h
 clear h
 replace H := Option.bind_eq_some_iff.mp H
 obtain ⟨t494, A30, H⟩ := H
 replace H : (if t494 = true then (if (l0_1.length : Int) > 100 then (L2_OctStays.j0 k l1 t494 true a0_0 l0_1) else (L2_OctStays.j0 k l1 t494 (decide ((l1.length : Int) > 40)) a0_0 l0_1)) else (L2_OctStays.j0 k l1 t494 true a0_0 l0_1)) = some r := H
 have A3 := am A30
 clear A30
 have HC4 := am H
 clear H
 go_enter Tryd.func10, Tryd.ntmps10
 go_upto_region 2 with (first | ((with_reducible refine gate_dst (N := 2) rfl ?_); (try (refine gate_guard (by rfl) ?_; dsimp only)); refine box_event ?hg (N := 2) ?hd (cs := #[.int .i64 a0_0, .slice A0_1 l0_1.length c0_1]) (t := 78) ?hr ?_; (case hd => rfl); (case hg => rfl); (case hr => first | (go_simp; done) | (go_simp; rfl)); intro gb493 hg w5 hbox hb; have n0_ := am (below_step pw hb); have n1_ := am (hbox); have n2_ := am ((by rw [hg]; exact (below_size pw) : w.heap.size ≤ gb493)); have n3_ := am ((by rw [hg]; exact (below_size pw) : w.heap.size ≤ gb493)); clear HB; have HB := n0_; have BK493 := n1_; have GW493 := n2_; have GE493 := n3_; clear n0_ n1_ n2_ n3_; clear hb hbox hg) | ((with_reducible refine gate_callee (f := 48) rfl ?_); refine goesL_ (some 11) rfl rfl Tryd.func48 kk rfl #[] rfl (by (try simp only [List.map_toArray, List.map_cons, List.map_nil]); first | done | rfl | (simp only [List.length_drop, List.length_take]; rfl)) ?_; (with_reducible refine (L2_odd.calls k  t494 _ A3.out (am (ErrAt.below hE2.out pw)).out (am (ErrAt.below hE3.out pw)).out (am (ErrAt.below hE7.out pw)).out).mono ?_); rintro e w6 ⟨rfl, hb⟩; refine ⟨_, rfl, ?_⟩; have n0_ := bb BK493 hb; have n1_ := am (below_step pw hb); clear BK493; clear HB; have BK493 := n0_; have HB := n1_; clear n0_ n1_; (try clear hb); (try clear hb2); (try clear hk); (try clear hi)))
 (try simp only [Act.put, List.setIfInBounds_toArray, List.set_cons_zero, List.set_cons_succ])
 go_cut [24] (fun v24 wc => ∃ (kq : Nat) (x24_3 : Bool), v24 = .bool x24_3 ∧ Aside0 (L2_OctStays.j0 kq l1 t494 x24_3 a0_0 l0_1 = some r) ∧ Aside0 (kq ≤ k) ∧ Aside0 (wc.heap[gb493]? = some (.cells #[.int .i64 a0_0, (.slice A0_1 l0_1.length c0_1)] 78 (0, 0))) ∧ Aside0 (Below w.heap.size w wc))
 case first =>
  have H := HC4.out
  clear HC4
  by_cases c7 : t494 = true
  ·subst c7
   have H1 : (if (l0_1.length : Int) > 100 then (L2_OctStays.j0 k l1 true true a0_0 l0_1) else (L2_OctStays.j0 k l1 true (decide ((l1.length : Int) > 40)) a0_0 l0_1)) = some r := by rw [if_pos rfl] at H; exact H
   clear H
   have H := H1
   clear H1
   by_cases c8 : (l0_1.length : Int) > 100
   ·rw [if_pos c8] at H
    have c8b0 : decide (100 < (l0_1.length : Int)) = true := decide_eq_true c8
    have c8b1 : decide (100 < l0_1.length) = true := decide_eq_true (by omega)
    clear c8
    (first | rw [c8b0] | (simp only [i64_w, i32_w]; rw [c8b0]) | skip)
    as_aux_lemma =>
     have H' := am H
     clear H
     have hcz9_0 : w6.cell? ⟨gb493, 0, none⟩ = some (.int .i64 a0_0) := bc BK493 0
     have hcz9_1 : w6.cell? ⟨gb493, 1, none⟩ = some (.slice A0_1 l0_1.length c0_1) := bc BK493 1
     have hfz9_0 := blk_frozen BK493.out 0
     have hfz9_1 := blk_frozen BK493.out 1
     go_wp2
     go_meet
     case rel => exact ⟨_, (true), pr, H', ⟨by first | omega | exact Nat.le_refl _⟩, ⟨pk⟩, ⟨pw⟩⟩
   rw [if_neg c8] at H
   have c8b0 : decide (100 < (l0_1.length : Int)) = false := decide_eq_false c8
   have c8b1 : decide (100 < l0_1.length) = false := decide_eq_false (by omega)
   clear c8
   (first | rw [c8b0] | (simp only [i64_w, i32_w]; rw [c8b0]) | skip)
   as_aux_lemma =>
    have H' := am H
    clear H
    have hcz10_0 : w6.cell? ⟨gb493, 0, none⟩ = some (.int .i64 a0_0) := bc BK493 0
    have hcz10_1 : w6.cell? ⟨gb493, 1, none⟩ = some (.slice A0_1 l0_1.length c0_1) := bc BK493 1
    have hfz10_0 := blk_frozen BK493.out 0
    have hfz10_1 := blk_frozen BK493.out 1
    go_wp2
    go_meet
    case rel => exact ⟨_, (decide ((l1.length : Int) > 40)), pr, H', ⟨by first | omega | exact Nat.le_refl _⟩, ⟨pk⟩, ⟨pw⟩⟩
  replace c7 := Bool.eq_false_iff.mpr c7
  subst c7
  have H1 : (L2_OctStays.j0 k l1 false true a0_0 l0_1) = some r := by rw [if_neg (show ¬ (false = true) by decide)] at H; exact H
  clear H
  have H := H1
  clear H1
  as_aux_lemma =>
   have H' := am H
   clear H
   go_wp2
   go_meet
   case rel => exact ⟨_, (true), pr, H', ⟨by first | omega | exact Nat.le_refl _⟩, ⟨pk⟩, ⟨pw⟩⟩
 as_aux_lemma =>
 clear HC4
 try clear c1
 try clear p2
 try clear c4
 try clear c7
 try clear c8
 try clear c8b0
 try clear c8b1
 try clear c10
 try clear hcz10_0
 try clear hcz10_1
 try clear hcz9_0
 try clear hcz9_1
 try clear hfz10_0
 try clear hfz10_1
 try clear hfz9_0
 try clear hfz9_1
 obtain ⟨kq, x24_3, rfl, HA, HJ3, BK493, HB⟩ := hcut
 cases kq with
 | zero => exact absurd HA.out (by simp [L2_OctStays.j0])
 | succ kj3 =>
  have H := HA.out
  clear HA
  simp only [L2_OctStays.j0] at H
  by_cases c11 : x24_3 = true
  ·subst c11
   have H1 : (some t494) = some r := by rw [if_pos rfl] at H; exact H
   clear H
   have H := H1
   clear H1
   as_aux_lemma =>
    obtain rfl := Option.some.inj H
    go_wp2
    go_ret
    exact ⟨pe, pw⟩
  replace c11 := Bool.eq_false_iff.mpr c11
  subst c11
  have H1 : ((L2_octOf.f kj3 a0_0 l0_1).bind fun bt495 => (L2_OctStays.l0 kj3 l1 0 0 a0_0 l0_1 bt495.1 bt495.2)) = some r := by rw [if_neg (show ¬ (false = true) by decide)] at H; exact H
  clear H
  have H := H1
  clear H1
  replace H := Option.bind_eq_some_iff.mp H
  obtain ⟨⟨t495, t496⟩, A120, H⟩ := H
  replace H : (L2_OctStays.l0 kj3 l1 0 0 a0_0 l0_1 t495 t496) = some r := H
  have A12 := am A120
  clear A120
  have H' := am H
  clear H
  have hcz13_0 : wc.cell? ⟨gb493, 0, none⟩ = some (.int .i64 a0_0) := bc BK493 0
  have hcz13_1 : wc.cell? ⟨gb493, 1, none⟩ = some (.slice A0_1 l0_1.length c0_1) := bc BK493 1
  have hfz13_0 := blk_frozen BK493.out 0
  have hfz13_1 := blk_frozen BK493.out 1
  go_wp2_with (first | ((with_reducible refine gate_callee (f := 49) rfl ?_); refine goesL_ (some 27) rfl rfl Tryd.func49 kk rfl #[.agg #[.int .i64 a0_0, .slice A0_1 l0_1.length c0_1]] rfl (by (try simp only [List.map_toArray, List.map_cons, List.map_nil]); first | done | rfl | (simp only [List.length_drop, List.length_take]; rfl)) ?_; (with_reducible refine (L2_octOf.calls kj3 a0_0 _ _ l0_1 t495 t496 _ ?side1 ?side2 A12.out).mono ?_); (case side1 => repeat (first | exact (Kd.C_below HR0_1.out HB.out) | (with_reducible refine Kd.C_alloc ?_ _) | (with_reducible refine Kd.C_drewN ?_ _) | (with_reducible refine Kd.C_drew ?_))); (case side2 => exact HC0_1.out); rintro e w14 ⟨v497, rfl, ho0, hb⟩; refine ⟨_, rfl, ?_⟩; have n0_ := am (Kd.R_lower ho0 (below_size pw)); have n1_ := bb BK493 hb; have n2_ := am (below_step pw hb); clear BK493; clear HB; have HO498 := n0_; have BK493 := n1_; have HB := n2_; clear n0_ n1_ n2_; (try clear hb); (try clear hb2); (try clear hk); (try clear hi); (try clear ho0)) | ((with_reducible refine gate_dst (N := 6) rfl ?_); (try (refine gate_guard (by rfl) ?_; dsimp only)); refine box_event ?hg (N := 6) ?hd (cs := #[.int .i64 0, .slice none 0 0]) (t := 82) ?hr ?_; (case hd => rfl); (case hg => rfl); (case hr => first | (go_simp; done) | (go_simp; rfl)); intro gb499 hg w15 hbox hb; have n0_ := am (Kd.R_below (by (with_reducible repeat (first | apply Kd.R_alloc | apply Kd.R_drewN | apply Kd.R_drew)); exact HO498.out) hb); have n1_ := bb BK493 hb; have n2_ := am (below_step pw hb); have n3_ := am (hbox); have n4_ := am ((by rw [hg]; exact (below_size pw) : w.heap.size ≤ gb499)); have n5_ := am ((by rw [hg]; exact (below_size pw) : w.heap.size ≤ gb499)); have n6_ := am ((by rw [hg]; exact Nat.ne_of_lt (blk_lt pk) : gb493 ≠ gb499)); have n7_ := am ((by rw [hg]; exact Nat.ne_of_gt (blk_lt pk) : gb499 ≠ gb493)); clear HO498; clear BK493; clear HB; have HO498 := n0_; have BK493 := n1_; have HB := n2_; have BK499 := n3_; have GW499 := n4_; have GE499 := n5_; have NB493_499 := n6_; have NB499_493 := n7_; clear n0_ n1_ n2_ n3_ n4_ n5_ n6_ n7_; clear hb hbox hg; have hnb16 := NB499_493.out; have hnc16 := NB493_499.out; have hcz17_0 : w15.cell? ⟨gb499, 0, none⟩ = some (.int .i64 0) := bc BK499 0; have hcz17_1 : w15.cell? ⟨gb499, 1, none⟩ = some (.slice none 0 0) := bc BK499 1; have hfz17_0 := blk_frozen BK499.out 0; have hfz17_1 := blk_frozen BK499.out 1; obtain ⟨Ao18, co18, eo18⟩ := Kd.R_slice HO498.out; subst eo18))
  go_loopg [7, 8] kj3 (fun kq v7 v8 w' => ∃ (x7_2 : Int) (x8_2 : Int) (x500000_2 : Int) (x500001_2 : List (S95)) (u500001 : Value), v7 = .int .i64 x7_2 ∧ v8 = .int .i64 x8_2 ∧ Aside0 (L2_OctStays.l0 kq l1 x7_2 x8_2 a0_0 l0_1 x500000_2 x500001_2 = some r) ∧ Aside0 (kq ≤ kj3) ∧ Aside0 (Kd.R k95 95 w' w.heap.size (fun _ => True) u500001 x500001_2) ∧ Aside0 (w'.heap[gb493]? = some (.cells #[.int .i64 a0_0, (.slice A0_1 l0_1.length c0_1)] 78 (0, 0))) ∧ Aside0 (w'.heap[gb499]? = some (.cells #[.int .i64 x500000_2, u500001] 82 (0, 0))) ∧ Aside0 (Below w.heap.size w w'))
  case atStart => exact ⟨(0), (0), (t495), (t496), (.slice Ao18 t496.length co18), pr, pr, H', ⟨Nat.le_refl _⟩, ⟨by (with_reducible repeat (first | apply Kd.R_alloc | apply Kd.R_drewN | apply Kd.R_drew)); exact Kd.R_mono (Kd.R_far (p := ⟨gb499, 1, none⟩) (Kd.R_far (p := ⟨gb499, 0, none⟩) (Kd.R_types HO498.out BK499.out (by decide)) (fun _ hk => hk.2) (.int .i64 t495)) (fun _ hk => hk.2) (.slice Ao18 t496.length co18)) (fun _ hk => trivial)⟩, ⟨by (with_reducible repeat (first | refine blk_drewN ?_ _ | refine blk_drew ?_ | refine blk_alloc ?_ _)); refine blk_far ?_ NB493_499.out _; (with_reducible repeat (first | refine blk_drewN ?_ _ | refine blk_drew ?_ | refine blk_alloc ?_ _)); refine blk_far ?_ NB493_499.out _; (with_reducible repeat (first | refine blk_drewN ?_ _ | refine blk_drew ?_ | refine blk_alloc ?_ _)); exact BK493.out⟩, ⟨by (with_reducible repeat (first | refine blk_drewN ?_ _ | refine blk_drew ?_ | refine blk_alloc ?_ _)); refine blk_put (cs := #[.int .i64 t495, .slice none 0 0]) ?_ 1 _ rfl; (with_reducible repeat (first | refine blk_drewN ?_ _ | refine blk_drew ?_ | refine blk_alloc ?_ _)); refine blk_put (cs := #[.int .i64 0, .slice none 0 0]) ?_ 0 _ rfl; (with_reducible repeat (first | refine blk_drewN ?_ _ | refine blk_drew ?_ | refine blk_alloc ?_ _)); exact BK499.out⟩, ⟨pw⟩⟩
  case round =>
   clear H'
   try clear c1
   try clear p2
   try clear c4
   try clear c7
   try clear c8
   try clear c8b0
   try clear c8b1
   try clear c10
   try clear c11
   try clear c16
   try clear hcz10_0
   try clear hcz10_1
   try clear hcz13_0
   try clear hcz13_1
   try clear hcz17_0
   try clear hcz17_1
   try clear hcz9_0
   try clear hcz9_1
   try clear hfz10_0
   try clear hfz10_1
   try clear hfz13_0
   try clear hfz13_1
   try clear hfz17_0
   try clear hfz17_1
   try clear hfz9_0
   try clear hfz9_1
   try clear p2
   obtain ⟨x7_2, x8_2, x500000_2, x500001_2, u500001, rfl, rfl, HA, HK2, HO_500001, BK493, BK499, HB⟩ := hrel
   cases gk with
   | zero => exact absurd HA.out (by simp [L2_OctStays.l0])
   | succ k2 =>
    have H := HA.out
    clear HA
    simp only [L2_OctStays.l0] at H
    by_cases c19 : x8_2 < (l1.length : Int)
    ·rw [if_pos c19] at H
     have c19b0 : decide (x8_2 < (l1.length : Int)) = true := decide_eq_true c19
     clear c19
     by_cases c20 : 0 ≤ x8_2
     ·rw [if_pos c20] at H
      have c20b0 : decide (0 ≤ x8_2) = true := decide_eq_true c20
      clear c20
      by_cases c21 : (((rd_T78 l1 x8_2).f1).length : Int) > 100
      ·rw [if_pos c21] at H
       have c21b0 : decide (100 < (((rd_T78 l1 x8_2).f1).length : Int)) = true := decide_eq_true c21
       have c21b1 : decide (100 < ((rd_T78 l1 x8_2).f1).length) = true := decide_eq_true (by omega)
       clear c21
       as_aux_lemma =>
        obtain rfl := Option.some.inj H
        have p500 : 0 ≤ (x8_2 : Int) := of_decide_eq_true (by first | (with_reducible assumption) | assumption)
        have q500 : x8_2 < (l1.length : Int) := of_decide_eq_true (by first | (with_reducible assumption) | assumption)
        obtain ⟨ad500, A500_1, c500_1, e500, hx500_0, hx500_1, hl500_1, hi500_1⟩ := at_T78 HR1.out x8_2 p500 q500
        cases e500
        replace hx500_0 := (HB.out.cell (World.block_lt_of_cell? w _ hx500_0)).trans hx500_0
        replace hx500_1 := (HB.out.cell (World.block_lt_of_cell? w _ hx500_1)).trans hx500_1
        have HR500_1 := am hi500_1
        have HC500_1 := am hl500_1
        clear hi500_1 hl500_1
        replace p500 := eq_true p500
        replace q500 := eq_true q500
        go_wp2
        go_ret
        exact ⟨pe, pw⟩
      rw [if_neg c21] at H
      have c21b0 : decide (100 < (((rd_T78 l1 x8_2).f1).length : Int)) = false := decide_eq_false c21
      have c21b1 : decide (100 < ((rd_T78 l1 x8_2).f1).length) = false := decide_eq_false (by omega)
      clear c21
      replace H := Option.bind_eq_some_iff.mp H
      obtain ⟨⟨t502, t503⟩, A220, H⟩ := H
      replace H : ((octagon_Widen.f x500000_2 x500001_2 t502 t503).bind fun bt506 => (if bt506.2.2.isNone = true then ((L2_octBack.f k2 x500000_2 x500001_2).bind fun bt513 => ((L2_isOct.f k2 bt506.1 bt506.2.1 bt513.1 bt513.2).bind fun t517 => (if t517 = true then (L2_OctStays.l0 k2 l1 x7_2 (wrap64 (x8_2 + 1)) a0_0 l0_1 bt506.1 bt506.2.1) else (L2_OctStays.l0 k2 l1 (wrap64 (x7_2 + 1)) (wrap64 (x8_2 + 1)) a0_0 l0_1 bt506.1 bt506.2.1)))) else (some true))) = some r := H
      have A22 := am A220
      clear A220
      replace H := Option.bind_eq_some_iff.mp H
      obtain ⟨⟨t506, t507, t510⟩, A230, H⟩ := H
      replace H : (if t510.isNone = true then ((L2_octBack.f k2 x500000_2 x500001_2).bind fun bt513 => ((L2_isOct.f k2 t506 t507 bt513.1 bt513.2).bind fun t517 => (if t517 = true then (L2_OctStays.l0 k2 l1 x7_2 (wrap64 (x8_2 + 1)) a0_0 l0_1 t506 t507) else (L2_OctStays.l0 k2 l1 (wrap64 (x7_2 + 1)) (wrap64 (x8_2 + 1)) a0_0 l0_1 t506 t507)))) else (some true)) = some r := H
      have A23 := am A230
      clear A230
      rcases t510 with _ | q512
      ·have H1 : ((L2_octBack.f k2 x500000_2 x500001_2).bind fun bt513 => ((L2_isOct.f k2 t506 t507 bt513.1 bt513.2).bind fun t517 => (if t517 = true then (L2_OctStays.l0 k2 l1 x7_2 (wrap64 (x8_2 + 1)) a0_0 l0_1 t506 t507) else (L2_OctStays.l0 k2 l1 (wrap64 (x7_2 + 1)) (wrap64 (x8_2 + 1)) a0_0 l0_1 t506 t507)))) = some r := by rw [if_pos (show (none : Option Int).isNone = true by rfl)] at H; exact H
       clear H
       have H := H1
       clear H1
       try simp only [errW_none, errW_some]
       replace H := Option.bind_eq_some_iff.mp H
       obtain ⟨⟨t513, t514⟩, A240, H⟩ := H
       replace H : ((L2_isOct.f k2 t506 t507 t513 t514).bind fun t517 => (if t517 = true then (L2_OctStays.l0 k2 l1 x7_2 (wrap64 (x8_2 + 1)) a0_0 l0_1 t506 t507) else (L2_OctStays.l0 k2 l1 (wrap64 (x7_2 + 1)) (wrap64 (x8_2 + 1)) a0_0 l0_1 t506 t507))) = some r := H
       have A24 := am A240
       clear A240
       replace H := Option.bind_eq_some_iff.mp H
       obtain ⟨t517, A250, H⟩ := H
       replace H : (if t517 = true then (L2_OctStays.l0 k2 l1 x7_2 (wrap64 (x8_2 + 1)) a0_0 l0_1 t506 t507) else (L2_OctStays.l0 k2 l1 (wrap64 (x7_2 + 1)) (wrap64 (x8_2 + 1)) a0_0 l0_1 t506 t507)) = some r := H
       have A25 := am A250
       clear A250
       by_cases c26 : t517 = true
       ·subst c26
        have H1 : (L2_OctStays.l0 k2 l1 x7_2 (wrap64 (x8_2 + 1)) a0_0 l0_1 t506 t507) = some r := by rw [if_pos rfl] at H; exact H
        clear H
        have H := H1
        clear H1
        as_aux_lemma =>
         have H' := am H
         clear H
         have p500 : 0 ≤ (x8_2 : Int) := of_decide_eq_true (by first | (with_reducible assumption) | assumption)
         have q500 : x8_2 < (l1.length : Int) := of_decide_eq_true (by first | (with_reducible assumption) | assumption)
         obtain ⟨ad500, A500_1, c500_1, e500, hx500_0, hx500_1, hl500_1, hi500_1⟩ := at_T78 HR1.out x8_2 p500 q500
         cases e500
         replace hx500_0 := (HB.out.cell (World.block_lt_of_cell? w _ hx500_0)).trans hx500_0
         replace hx500_1 := (HB.out.cell (World.block_lt_of_cell? w _ hx500_1)).trans hx500_1
         have HR500_1 := am hi500_1
         have HC500_1 := am hl500_1
         clear hi500_1 hl500_1
         replace p500 := eq_true p500
         replace q500 := eq_true q500
         obtain ⟨Ao27, co27, eo27⟩ := Kd.R_slice HO_500001.out
         subst eo27
         try go_wp2
         have n0_ := am (Kd.R_drew HO_500001.out)
         have n1_ := am (blk_drew BK493.out)
         have n2_ := am (blk_drew BK499.out)
         have n3_ := am (below_drew1 HB.out)
         clear HO_500001 BK493 BK499 HB
         revert n0_ n1_ n2_ n3_
         intro HO_500001 BK493 BK499 HB
         have p501 : 0 ≤ (x8_2 : Int) := of_decide_eq_true (by first | (with_reducible assumption) | assumption)
         have q501 : x8_2 < (l1.length : Int) := of_decide_eq_true (by first | (with_reducible assumption) | assumption)
         obtain ⟨ad501, A501_1, c501_1, e501, hx501_0, hx501_1, hl501_1, hi501_1⟩ := at_T78 HR1.out x8_2 p501 q501
         have hw501_1 := hx501_1
         have hw501_0 := hx501_0
         obtain rfl : ad500 = ad501 := (by injection e501)
         replace hx501_0 := (HB.out.cell (World.block_lt_of_cell? w _ hx501_0)).trans hx501_0
         replace hx501_1 := (HB.out.cell (World.block_lt_of_cell? w _ hx501_1)).trans hx501_1
         have HR501_1 := am hi501_1
         have HC501_1 := am hl501_1
         clear hi501_1 hl501_1
         replace p501 := eq_true p501
         replace q501 := eq_true q501
         refine start_ (n := 13) (S := fun w' => w'.cell? ⟨gb499, 0, none⟩ = some (.int .i64 x500000_2) ∧ w'.cell? ⟨gb499, 1, none⟩ = some (.slice Ao27 x500001_2.length co27) ∧ w'.cell? (ad500.add ((x8_2).toNat * 2)) = some (.int .i64 ((rd_T78 l1 x8_2).f0)) ∧ w'.cell? ⟨(ad500.add ((x8_2).toNat * 2)).block, (ad500.add ((x8_2).toNat * 2)).off + 1, none⟩ = some (.slice A501_1 ((rd_T78 l1 x8_2).f1).length c501_1)) (ds := []) #[false, false, false, false, false, false, false, false, false, false, false, false, false] kk rfl rfl ⟨bc BK499 0, bc BK499 1, ((HB.out.cell (World.block_lt_of_cell? w _ hw501_0)).trans hw501_0), ((HB.out.cell (World.block_lt_of_cell? w _ hw501_1)).trans hw501_1)⟩ (fun hHeld => ?_); refine with_tabW L2_OctStays.tab11 L2_OctStays.bits11 (fun HT_ HW_ => ?_)
         generalize wr.drew = w28 at HO_500001 BK493 BK499 HB HR501_1 hx501_0 hx501_1 hHeld ⊢
         refine pure_ (i := 1) (N := some 43) (v := ?_) (a' := ?_) #[false, true, false, false, false, false, false, false, false, false, false, false, false] rfl rfl (any_of HT_.out kk) (fun _ _ _ h => h) (Or.inl ⟨by rfl, ?_⟩) ?_ ?_
         rotate_left
         ·intro w'
          go_simp
          with_reducible rfl
         rotate_left
         ·simp only [Act.put, List.setIfInBounds_toArray, List.set_cons_zero, List.set_cons_succ, i64_w, i32_w]
          rfl
         refine pure_ (i := 2) (N := some 44) (v := ?_) (a' := ?_) #[false, true, true, false, false, false, false, false, false, false, false, false, false] rfl rfl (any_of HT_.out kk) (fun _ _ _ h => h) (Or.inl ⟨by rfl, ?_⟩) ?_ ?_
         rotate_left
         ·intro w'
          go_simp
          with_reducible rfl
         rotate_left
         ·simp only [Act.put, List.setIfInBounds_toArray, List.set_cons_zero, List.set_cons_succ, i64_w, i32_w]
          rfl
         refine pure_ (i := 3) (N := some 45) (v := ?_) (a' := ?_) #[false, true, true, true, false, false, false, false, false, false, false, false, false] rfl rfl (any_of HT_.out kk) (fun _ _ _ h => h) (Or.inl ⟨by rfl, ?_⟩) ?_ ?_
         rotate_left
         ·intro w'
          go_simp
          with_reducible rfl
         rotate_left
         ·simp only [Act.put, List.setIfInBounds_toArray, List.set_cons_zero, List.set_cons_succ, i64_w, i32_w]
          rfl
         refine take_ (i := 0) (N := some 42) (v := ?_) (a' := ?_) #[true, true, true, true, false, false, false, false, false, false, false, false, false] rfl rfl (take_ofW HT_.out HW_.out kk) (fun _ _ _ h => h) (Or.inl ⟨by rfl, ?_⟩) hHeld ?_ ?_
         rotate_left
         ·rintro w' ⟨s0, s1, s2, s3⟩
          go_simp
          with_reducible rfl
         rotate_left
         ·simp only [Act.put, List.setIfInBounds_toArray, List.set_cons_zero, List.set_cons_succ, i64_w, i32_w]
          rfl
         refine take_ (i := 4) (N := some 46) (v := ?_) (a' := ?_) #[true, true, true, true, true, false, false, false, false, false, false, false, false] rfl rfl (take_ofW HT_.out HW_.out kk) (fun _ _ _ h => h) (Or.inl ⟨by rfl, ?_⟩) hHeld ?_ ?_
         rotate_left
         ·rintro w' ⟨s0, s1, s2, s3⟩
          go_simp
          with_reducible rfl
         rotate_left
         ·simp only [Act.put, List.setIfInBounds_toArray, List.set_cons_zero, List.set_cons_succ, i64_w, i32_w]
          rfl
         refine join_ (σ := Value × Value × Nat) 2 #[true, true, true, true, true, true, true, true, true, true, true, false, false] (fun s_ => [(47, .agg #[.int .i64 t502, s_.1]), (48, .tuple #[.agg #[.int .i64 t506, s_.2.1], .nilIface]), (9, .pointer (some ⟨s_.2.2, 0, none⟩)), (41, .tuple #[.agg #[.int .i64 t506, s_.2.1], .nilIface]), (49, .agg #[.int .i64 t506, s_.2.1]), (50, .nilIface)]) (fun s_ w' => (w'.cell? ⟨gb499, 0, none⟩ = some (.int .i64 x500000_2) ∧ w'.cell? ⟨gb499, 1, none⟩ = some (.slice Ao27 x500001_2.length co27) ∧ w'.cell? (ad500.add ((x8_2).toNat * 2)) = some (.int .i64 ((rd_T78 l1 x8_2).f0)) ∧ w'.cell? ⟨(ad500.add ((x8_2).toNat * 2)).block, (ad500.add ((x8_2).toNat * 2)).off + 1, none⟩ = some (.slice A501_1 ((rd_T78 l1 x8_2).f1).length c501_1)) ∧ (Kd.R k95 95 w' w.heap.size (fun k_ => some k_ ≠ (s_.2.1 : Value).ownBlock ∧ some k_ ≠ (.slice Ao27 x500001_2.length co27 : Value).ownBlock) s_.1 t503) ∧ (Kd.R k95 95 w' w.heap.size (fun k_ => some k_ ≠ (s_.1 : Value).ownBlock ∧ some k_ ≠ (.slice Ao27 x500001_2.length co27 : Value).ownBlock) s_.2.1 t507) ∧ (Kd.R k95 95 w' w.heap.size (fun k_ => some k_ ≠ (s_.1 : Value).ownBlock ∧ some k_ ≠ (s_.2.1 : Value).ownBlock) (.slice Ao27 x500001_2.length co27) x500001_2) ∧ (w'.heap[gb493]? = some (.cells #[.int .i64 a0_0, .slice A0_1 l0_1.length c0_1] 78 (0, 0))) ∧ (w'.heap[gb499]? = some (.cells #[.int .i64 x500000_2, .slice Ao27 x500001_2.length co27] 82 (0, 0))) ∧ (w'.heap[s_.2.2]? = some (.cells #[.int .i64 0, .slice none 0 0] 82 (0, 0))) ∧ (w.heap.size ≤ s_.2.2) ∧ (w.heap.size ≤ s_.2.2) ∧ (gb493 ≠ s_.2.2) ∧ (s_.2.2 ≠ gb493) ∧ (gb499 ≠ s_.2.2) ∧ (s_.2.2 ≠ gb499) ∧ (Below w.heap.size w w')) ?_ ?_
         rotate_left
         ·intro hCont
          refine two_ (i := 5) (j := 10) (Ni := some 47) (Nj := some 9) #[true, true, true, true, true, true, false, false, false, false, false, false, false] #[true, true, true, true, true, false, false, false, false, false, true, false, false] rfl rfl rfl rfl (two_of HT_.out kk) (by decide) (by decide) (fun K hK => ?_) (fun K hK => ?_)
          ·skip
           refine goes_ Tryd.func49 kk rfl #[.agg #[.int .i64 ((rd_T78 l1 x8_2).f0), .slice A501_1 ((rd_T78 l1 x8_2).f1).length c501_1]] (by rfl) rfl rfl (by (try simp only [List.map_toArray, List.map_cons, List.map_nil]); first | done | rfl | (simp only [List.length_drop, List.length_take]; rfl)) ?_
           with_reducible refine (L2_octOf.calls k2 ((rd_T78 l1 x8_2).f0) _ _ ((rd_T78 l1 x8_2).f1) t502 t503 _ ?side1 ?side2 A22.out).mono ?_
           (case side1 => repeat (first | exact (Kd.C_below HR501_1.out HB.out) | (with_reducible refine Kd.C_alloc ?_ _) | (with_reducible refine Kd.C_drewN ?_ _) | (with_reducible refine Kd.C_drew ?_)))
           (case side2 => exact HC501_1.out)
           rintro e w29 ⟨v504, rfl, ho0, hb⟩
           refine ⟨_, rfl, ?_⟩
           have n0_ := am (Kd.R_elder' (by (with_reducible repeat (first | apply Kd.R_alloc | apply Kd.R_drewN | apply Kd.R_drew)); exact HO_500001.out) (Kd.R_base ho0) hb)
           have n1_ := am (Kd.R_lower (Kd.R_new' ho0 (Kd.R_lt (by (with_reducible repeat (first | apply Kd.R_alloc | apply Kd.R_drewN | apply Kd.R_drew)); exact HO_500001.out))) (below_size pw))
           have n2_ := bb BK493 hb
           have n3_ := bb BK499 hb
           have n4_ := am (below_step pw hb)
           clear HO_500001 BK493 BK499 HB
           revert n0_ n1_ n2_ n3_ n4_
           intro HO_500001 HO505 BK493 BK499 HB
           (try clear hb)
           (try clear hb2)
           (try clear hk)
           (try clear hi)
           (try clear ho0)
           obtain ⟨Ao30, co30, eo30⟩ := Kd.R_slice HO505.out
           (first | subst eo30 | (injection eo30 with f1_ f2_ f3_; have f4_ := f1_.symm; have f5_ := f3_.symm; clear f1_ f2_ f3_; subst f4_; subst f5_))
           refine hK.out _ _ ⟨bc BK499 0, bc BK499 1, ((HB.out.cell (World.block_lt_of_cell? w _ hw501_0)).trans hw501_0), ((HB.out.cell (World.block_lt_of_cell? w _ hw501_1)).trans hw501_1)⟩ (fun hHeld => ?_)
           clear hK K
           refine norm_ (a' := ?_) ?_ ?_
           rotate_left
           ·show Act.put _ (some 47) _ = _
            simp only [Act.put, List.setIfInBounds_toArray, List.set_cons_zero, List.set_cons_succ, i64_w, i32_w]
            rfl
           refine two_ (i := 6) (j := 10) (Ni := some 48) (Nj := some 9) #[true, true, true, true, true, true, true, false, false, false, false, false, false] #[true, true, true, true, true, true, false, false, false, false, true, false, false] rfl rfl rfl rfl (two_of HT_.out kk) (by decide) (by decide) (fun K hK => ?_) (fun K hK => ?_)
           ·skip
            refine goes_ Tryd.func50 kk rfl #[.agg #[.int .i64 x500000_2, .slice Ao27 x500001_2.length co27], .agg #[.int .i64 t502, .slice Ao30 t503.length co30]] (by rfl) rfl rfl (by (try simp only [List.map_toArray, List.map_cons, List.map_nil]); first | done | rfl | (simp only [List.length_drop, List.length_take]; rfl)) ?_
            with_reducible refine (octagon_Widen.calls x500000_2 _ _ x500001_2 t502 _ _ t503 t506 t507 none _ ?side1 ?side2 ?side3 ?side4 A23.out (am (ErrAt.below hE2.out pw)).out (am (ErrAt.below hE3.out pw)).out (am (ErrAt.below hE7.out pw)).out).mono ?_
            (case side1 => repeat (first | exact (Kd.R_reads' HO_500001.out).2.2 | (with_reducible refine Kd.C_alloc ?_ _) | (with_reducible refine Kd.C_drewN ?_ _) | (with_reducible refine Kd.C_drew ?_)))
            (case side2 => exact (Kd.R_reads' HO_500001.out).2.1)
            (case side3 => repeat (first | exact (Kd.R_reads' HO505.out).2.2 | (with_reducible refine Kd.C_alloc ?_ _) | (with_reducible refine Kd.C_drewN ?_ _) | (with_reducible refine Kd.C_drew ?_)))
            (case side4 => exact (Kd.R_reads' HO505.out).2.1)
            rintro e w31 ⟨v508, rfl, ho0, hb⟩
            refine ⟨_, rfl, ?_⟩
            have n0_ := am (Kd.R_elder' (by (with_reducible repeat (first | apply Kd.R_alloc | apply Kd.R_drewN | apply Kd.R_drew)); exact HO_500001.out) (Kd.R_base ho0) hb)
            have n1_ := am (Kd.R_elder' (by (with_reducible repeat (first | apply Kd.R_alloc | apply Kd.R_drewN | apply Kd.R_drew)); exact HO505.out) (Kd.R_base ho0) hb)
            have n2_ := am (Kd.R_lower (Kd.R_new' (Kd.R_new' ho0 (Kd.R_lt (by (with_reducible repeat (first | apply Kd.R_alloc | apply Kd.R_drewN | apply Kd.R_drew)); exact HO_500001.out))) (Kd.R_lt (by (with_reducible repeat (first | apply Kd.R_alloc | apply Kd.R_drewN | apply Kd.R_drew)); exact HO505.out))) (below_size pw))
            have n3_ := bb BK493 hb
            have n4_ := bb BK499 hb
            have n5_ := am (below_step pw hb)
            clear HO_500001 HO505 BK493 BK499 HB
            revert n0_ n1_ n2_ n3_ n4_ n5_
            intro HO_500001 HO505 HO509 BK493 BK499 HB
            (try clear hb)
            (try clear hb2)
            (try clear hk)
            (try clear hi)
            (try clear ho0)
            (try simp only [errW_none, errW_some])
            refine hK.out _ _ ⟨bc BK499 0, bc BK499 1, ((HB.out.cell (World.block_lt_of_cell? w _ hw501_0)).trans hw501_0), ((HB.out.cell (World.block_lt_of_cell? w _ hw501_1)).trans hw501_1)⟩ (fun hHeld => ?_)
            clear hK K
            refine norm_ (a' := ?_) ?_ ?_
            rotate_left
            ·show Act.put _ (some 48) _ = _
             simp only [Act.put, List.setIfInBounds_toArray, List.set_cons_zero, List.set_cons_succ, i64_w, i32_w]
             rfl
            refine pure_ (i := 7) (N := some 41) (v := ?_) (a' := ?_) #[true, true, true, true, true, true, true, true, false, false, false, false, false] rfl rfl (any_of HT_.out kk) (fun _ _ _ h => h) (Or.inl ⟨by rfl, ?_⟩) ?_ ?_
            rotate_left
            ·intro w'
             go_simp
             with_reducible rfl
            rotate_left
            ·simp only [Act.put, List.setIfInBounds_toArray, List.set_cons_zero, List.set_cons_succ, i64_w, i32_w]
             rfl
            refine pure_ (i := 8) (N := some 49) (v := ?_) (a' := ?_) #[true, true, true, true, true, true, true, true, true, false, false, false, false] rfl rfl (any_of HT_.out kk) (fun _ _ _ h => h) (Or.inl ⟨by rfl, ?_⟩) ?_ ?_
            rotate_left
            ·intro w'
             go_simp
             with_reducible rfl
            rotate_left
            ·simp only [Act.put, List.setIfInBounds_toArray, List.set_cons_zero, List.set_cons_succ, i64_w, i32_w]
             rfl
            refine pure_ (i := 9) (N := some 50) (v := ?_) (a' := ?_) #[true, true, true, true, true, true, true, true, true, true, false, false, false] rfl rfl (any_of HT_.out kk) (fun _ _ _ h => h) (Or.inl ⟨by rfl, ?_⟩) ?_ ?_
            rotate_left
            ·intro w'
             go_simp
             with_reducible rfl
            rotate_left
            ·simp only [Act.put, List.setIfInBounds_toArray, List.set_cons_zero, List.set_cons_succ, i64_w, i32_w]
             rfl
            refine one_ (i := 10) (N := some 9) #[true, true, true, true, true, true, true, true, true, true, true, false, false] rfl rfl (one_of HT_.out kk) (by decide) (fun K hK => ?_)
            refine box_step ?hg (N := 9) ?hd (cs := #[.int .i64 0, .slice none 0 0]) (t := 82) ?hr ?_; (case hd => rfl); (case hg => rfl); (case hr => first | (go_simp; done) | (go_simp; rfl))
            intro gb511 hg w32 hbox hb
            have n0_ := am (Kd.R_below (by (with_reducible repeat (first | apply Kd.R_alloc | apply Kd.R_drewN | apply Kd.R_drew)); exact HO_500001.out) hb)
            have n1_ := am (Kd.R_below (by (with_reducible repeat (first | apply Kd.R_alloc | apply Kd.R_drewN | apply Kd.R_drew)); exact HO505.out) hb)
            have n2_ := am (Kd.R_below (by (with_reducible repeat (first | apply Kd.R_alloc | apply Kd.R_drewN | apply Kd.R_drew)); exact HO509.out) hb)
            have n3_ := bb BK493 hb
            have n4_ := bb BK499 hb
            have n5_ := am (below_step pw hb)
            have n6_ := am (hbox)
            have n7_ := am ((by rw [hg]; exact (below_size pw) : w.heap.size ≤ gb511))
            have n8_ := am ((by rw [hg]; exact (below_size pw) : w.heap.size ≤ gb511))
            have n9_ := am ((by rw [hg]; exact Nat.ne_of_lt (blk_lt pk) : gb493 ≠ gb511))
            have n10_ := am ((by rw [hg]; exact Nat.ne_of_gt (blk_lt pk) : gb511 ≠ gb493))
            have n11_ := am ((by rw [hg]; exact Nat.ne_of_lt (blk_lt pk) : gb499 ≠ gb511))
            have n12_ := am ((by rw [hg]; exact Nat.ne_of_gt (blk_lt pk) : gb511 ≠ gb499))
            clear HO_500001 HO505 HO509 BK493 BK499 HB
            revert n0_ n1_ n2_ n3_ n4_ n5_ n6_ n7_ n8_ n9_ n10_ n11_ n12_
            intro HO_500001 HO505 HO509 BK493 BK499 HB BK511 GW511 GE511 NB493_511 NB511_493 NB499_511 NB511_499
            clear hb hbox hg
            refine hK.out _ _ ⟨bc BK499 0, bc BK499 1, ((HB.out.cell (World.block_lt_of_cell? w _ hw501_0)).trans hw501_0), ((HB.out.cell (World.block_lt_of_cell? w _ hw501_1)).trans hw501_1)⟩ (fun hHeld => ?_)
            clear hK K
            refine norm_ (a' := ?_) ?_ ?_
            rotate_left
            ·show Act.put _ (some 9) _ = _
             simp only [Act.put, List.setIfInBounds_toArray, List.set_cons_zero, List.set_cons_succ, i64_w, i32_w]
             rfl
            exact norm_ (by simp only [putAll, Act.put, List.setIfInBounds_toArray, List.set_cons_zero, List.set_cons_succ, errW_none, errW_some]) (hCont (.slice Ao30 t503.length co30, v508, gb511) _ ⟨hHeld, (by (with_reducible repeat (first | apply Kd.R_alloc | apply Kd.R_drewN | apply Kd.R_drew)); exact Kd.R_mono HO505.out (fun _ hk => ⟨hk.2, hk.1.2⟩)), (by (with_reducible repeat (first | apply Kd.R_alloc | apply Kd.R_drewN | apply Kd.R_drew)); exact Kd.R_mono HO509.out (fun _ hk => ⟨hk.2, hk.1.2⟩)), (by (with_reducible repeat (first | apply Kd.R_alloc | apply Kd.R_drewN | apply Kd.R_drew)); exact Kd.R_mono HO_500001.out (fun _ hk => ⟨hk.1.2, hk.2⟩)), pk, pk, pk, GW511.out, GE511.out, NB493_511.out, NB511_493.out, NB499_511.out, NB511_499.out, pw⟩)
           skip
           refine box_step ?hg (N := 9) ?hd (cs := #[.int .i64 0, .slice none 0 0]) (t := 82) ?hr ?_; (case hd => rfl); (case hg => rfl); (case hr => first | (go_simp; done) | (go_simp; rfl))
           intro gb511 hg w30 hbox hb
           have n0_ := am (Kd.R_below (by (with_reducible repeat (first | apply Kd.R_alloc | apply Kd.R_drewN | apply Kd.R_drew)); exact HO_500001.out) hb)
           have n1_ := am (Kd.R_below (by (with_reducible repeat (first | apply Kd.R_alloc | apply Kd.R_drewN | apply Kd.R_drew)); exact HO505.out) hb)
           have n2_ := bb BK493 hb
           have n3_ := bb BK499 hb
           have n4_ := am (below_step pw hb)
           have n5_ := am (hbox)
           have n6_ := am ((by rw [hg]; exact (below_size pw) : w.heap.size ≤ gb511))
           have n7_ := am ((by rw [hg]; exact (below_size pw) : w.heap.size ≤ gb511))
           have n8_ := am ((by rw [hg]; exact Nat.ne_of_lt (blk_lt pk) : gb493 ≠ gb511))
           have n9_ := am ((by rw [hg]; exact Nat.ne_of_gt (blk_lt pk) : gb511 ≠ gb493))
           have n10_ := am ((by rw [hg]; exact Nat.ne_of_lt (blk_lt pk) : gb499 ≠ gb511))
           have n11_ := am ((by rw [hg]; exact Nat.ne_of_gt (blk_lt pk) : gb511 ≠ gb499))
           clear HO_500001 HO505 BK493 BK499 HB
           revert n0_ n1_ n2_ n3_ n4_ n5_ n6_ n7_ n8_ n9_ n10_ n11_
           intro HO_500001 HO505 BK493 BK499 HB BK511 GW511 GE511 NB493_511 NB511_493 NB499_511 NB511_499
           clear hb hbox hg
           obtain ⟨Ao31, co31, eo31⟩ := Kd.R_slice HO505.out
           (first | subst eo31 | (injection eo31 with f1_ f2_ f3_; have f4_ := f1_.symm; have f5_ := f3_.symm; clear f1_ f2_ f3_; subst f4_; subst f5_))
           refine hK.out _ _ ⟨bc BK499 0, bc BK499 1, ((HB.out.cell (World.block_lt_of_cell? w _ hw501_0)).trans hw501_0), ((HB.out.cell (World.block_lt_of_cell? w _ hw501_1)).trans hw501_1)⟩ (fun hHeld => ?_)
           clear hK K
           refine norm_ (a' := ?_) ?_ ?_
           rotate_left
           ·show Act.put _ (some 9) _ = _
            simp only [Act.put, List.setIfInBounds_toArray, List.set_cons_zero, List.set_cons_succ, i64_w, i32_w]
            rfl
           refine one_ (i := 6) (N := some 48) #[true, true, true, true, true, true, true, false, false, false, true, false, false] rfl rfl (one_of HT_.out kk) (by decide) (fun K hK => ?_)
           refine goes_ Tryd.func50 kk rfl #[.agg #[.int .i64 x500000_2, .slice Ao27 x500001_2.length co27], .agg #[.int .i64 t502, .slice Ao31 t503.length co31]] (by rfl) rfl rfl (by (try simp only [List.map_toArray, List.map_cons, List.map_nil]); first | done | rfl | (simp only [List.length_drop, List.length_take]; rfl)) ?_
           with_reducible refine (octagon_Widen.calls x500000_2 _ _ x500001_2 t502 _ _ t503 t506 t507 none _ ?side1 ?side2 ?side3 ?side4 A23.out (am (ErrAt.below hE2.out pw)).out (am (ErrAt.below hE3.out pw)).out (am (ErrAt.below hE7.out pw)).out).mono ?_
           (case side1 => repeat (first | exact (Kd.R_reads' HO_500001.out).2.2 | (with_reducible refine Kd.C_alloc ?_ _) | (with_reducible refine Kd.C_drewN ?_ _) | (with_reducible refine Kd.C_drew ?_)))
           (case side2 => exact (Kd.R_reads' HO_500001.out).2.1)
           (case side3 => repeat (first | exact (Kd.R_reads' HO505.out).2.2 | (with_reducible refine Kd.C_alloc ?_ _) | (with_reducible refine Kd.C_drewN ?_ _) | (with_reducible refine Kd.C_drew ?_)))
           (case side4 => exact (Kd.R_reads' HO505.out).2.1)
           rintro e w32 ⟨v508, rfl, ho0, hb⟩
           refine ⟨_, rfl, ?_⟩
           have n0_ := am (Kd.R_elder' (by (with_reducible repeat (first | apply Kd.R_alloc | apply Kd.R_drewN | apply Kd.R_drew)); exact HO_500001.out) (Kd.R_base ho0) hb)
           have n1_ := am (Kd.R_elder' (by (with_reducible repeat (first | apply Kd.R_alloc | apply Kd.R_drewN | apply Kd.R_drew)); exact HO505.out) (Kd.R_base ho0) hb)
           have n2_ := am (Kd.R_lower (Kd.R_new' (Kd.R_new' ho0 (Kd.R_lt (by (with_reducible repeat (first | apply Kd.R_alloc | apply Kd.R_drewN | apply Kd.R_drew)); exact HO_500001.out))) (Kd.R_lt (by (with_reducible repeat (first | apply Kd.R_alloc | apply Kd.R_drewN | apply Kd.R_drew)); exact HO505.out))) (below_size pw))
           have n3_ := bb BK493 hb
           have n4_ := bb BK499 hb
           have n5_ := bb BK511 hb
           have n6_ := am (below_step pw hb)
           clear HO_500001 HO505 BK493 BK499 BK511 HB
           revert n0_ n1_ n2_ n3_ n4_ n5_ n6_
           intro HO_500001 HO505 HO509 BK493 BK499 BK511 HB
           (try clear hb)
           (try clear hb2)
           (try clear hk)
           (try clear hi)
           (try clear ho0)
           (try simp only [errW_none, errW_some])
           refine hK.out _ _ ⟨bc BK499 0, bc BK499 1, ((HB.out.cell (World.block_lt_of_cell? w _ hw501_0)).trans hw501_0), ((HB.out.cell (World.block_lt_of_cell? w _ hw501_1)).trans hw501_1)⟩ (fun hHeld => ?_)
           clear hK K
           refine norm_ (a' := ?_) ?_ ?_
           rotate_left
           ·show Act.put _ (some 48) _ = _
            simp only [Act.put, List.setIfInBounds_toArray, List.set_cons_zero, List.set_cons_succ, i64_w, i32_w]
            rfl
           refine pure_ (i := 7) (N := some 41) (v := ?_) (a' := ?_) #[true, true, true, true, true, true, true, true, false, false, true, false, false] rfl rfl (any_of HT_.out kk) (fun _ _ _ h => h) (Or.inl ⟨by rfl, ?_⟩) ?_ ?_
           rotate_left
           ·intro w'
            go_simp
            with_reducible rfl
           rotate_left
           ·simp only [Act.put, List.setIfInBounds_toArray, List.set_cons_zero, List.set_cons_succ, i64_w, i32_w]
            rfl
           refine pure_ (i := 8) (N := some 49) (v := ?_) (a' := ?_) #[true, true, true, true, true, true, true, true, true, false, true, false, false] rfl rfl (any_of HT_.out kk) (fun _ _ _ h => h) (Or.inl ⟨by rfl, ?_⟩) ?_ ?_
           rotate_left
           ·intro w'
            go_simp
            with_reducible rfl
           rotate_left
           ·simp only [Act.put, List.setIfInBounds_toArray, List.set_cons_zero, List.set_cons_succ, i64_w, i32_w]
            rfl
           refine pure_ (i := 9) (N := some 50) (v := ?_) (a' := ?_) #[true, true, true, true, true, true, true, true, true, true, true, false, false] rfl rfl (any_of HT_.out kk) (fun _ _ _ h => h) (Or.inl ⟨by rfl, ?_⟩) ?_ ?_
           rotate_left
           ·intro w'
            go_simp
            with_reducible rfl
           rotate_left
           ·simp only [Act.put, List.setIfInBounds_toArray, List.set_cons_zero, List.set_cons_succ, i64_w, i32_w]
            rfl
           exact norm_ (by simp only [putAll, Act.put, List.setIfInBounds_toArray, List.set_cons_zero, List.set_cons_succ, errW_none, errW_some]) (hCont (.slice Ao31 t503.length co31, v508, gb511) _ ⟨hHeld, (by (with_reducible repeat (first | apply Kd.R_alloc | apply Kd.R_drewN | apply Kd.R_drew)); exact Kd.R_mono HO505.out (fun _ hk => ⟨hk.2, hk.1.2⟩)), (by (with_reducible repeat (first | apply Kd.R_alloc | apply Kd.R_drewN | apply Kd.R_drew)); exact Kd.R_mono HO509.out (fun _ hk => ⟨hk.2, hk.1.2⟩)), (by (with_reducible repeat (first | apply Kd.R_alloc | apply Kd.R_drewN | apply Kd.R_drew)); exact Kd.R_mono HO_500001.out (fun _ hk => ⟨hk.1.2, hk.2⟩)), pk, pk, pk, GW511.out, GE511.out, NB493_511.out, NB511_493.out, NB499_511.out, NB511_499.out, pw⟩)
          skip
          refine box_step ?hg (N := 9) ?hd (cs := #[.int .i64 0, .slice none 0 0]) (t := 82) ?hr ?_; (case hd => rfl); (case hg => rfl); (case hr => first | (go_simp; done) | (go_simp; rfl))
          intro gb511 hg w29 hbox hb
          have n0_ := am (Kd.R_below (by (with_reducible repeat (first | apply Kd.R_alloc | apply Kd.R_drewN | apply Kd.R_drew)); exact HO_500001.out) hb)
          have n1_ := bb BK493 hb
          have n2_ := bb BK499 hb
          have n3_ := am (below_step pw hb)
          have n4_ := am (hbox)
          have n5_ := am ((by rw [hg]; exact (below_size pw) : w.heap.size ≤ gb511))
          have n6_ := am ((by rw [hg]; exact (below_size pw) : w.heap.size ≤ gb511))
          have n7_ := am ((by rw [hg]; exact Nat.ne_of_lt (blk_lt pk) : gb493 ≠ gb511))
          have n8_ := am ((by rw [hg]; exact Nat.ne_of_gt (blk_lt pk) : gb511 ≠ gb493))
          have n9_ := am ((by rw [hg]; exact Nat.ne_of_lt (blk_lt pk) : gb499 ≠ gb511))
          have n10_ := am ((by rw [hg]; exact Nat.ne_of_gt (blk_lt pk) : gb511 ≠ gb499))
          clear HO_500001 BK493 BK499 HB
          revert n0_ n1_ n2_ n3_ n4_ n5_ n6_ n7_ n8_ n9_ n10_
          intro HO_500001 BK493 BK499 HB BK511 GW511 GE511 NB493_511 NB511_493 NB499_511 NB511_499
          clear hb hbox hg
          refine hK.out _ _ ⟨bc BK499 0, bc BK499 1, ((HB.out.cell (World.block_lt_of_cell? w _ hw501_0)).trans hw501_0), ((HB.out.cell (World.block_lt_of_cell? w _ hw501_1)).trans hw501_1)⟩ (fun hHeld => ?_)
          clear hK K
          refine norm_ (a' := ?_) ?_ ?_
          rotate_left
          ·show Act.put _ (some 9) _ = _
           simp only [Act.put, List.setIfInBounds_toArray, List.set_cons_zero, List.set_cons_succ, i64_w, i32_w]
           rfl
          refine one_ (i := 5) (N := some 47) #[true, true, true, true, true, true, false, false, false, false, true, false, false] rfl rfl (one_of HT_.out kk) (by decide) (fun K hK => ?_)
          refine goes_ Tryd.func49 kk rfl #[.agg #[.int .i64 ((rd_T78 l1 x8_2).f0), .slice A501_1 ((rd_T78 l1 x8_2).f1).length c501_1]] (by rfl) rfl rfl (by (try simp only [List.map_toArray, List.map_cons, List.map_nil]); first | done | rfl | (simp only [List.length_drop, List.length_take]; rfl)) ?_
          with_reducible refine (L2_octOf.calls k2 ((rd_T78 l1 x8_2).f0) _ _ ((rd_T78 l1 x8_2).f1) t502 t503 _ ?side1 ?side2 A22.out).mono ?_
          (case side1 => repeat (first | exact (Kd.C_below HR501_1.out HB.out) | (with_reducible refine Kd.C_alloc ?_ _) | (with_reducible refine Kd.C_drewN ?_ _) | (with_reducible refine Kd.C_drew ?_)))
          (case side2 => exact HC501_1.out)
          rintro e w30 ⟨v504, rfl, ho0, hb⟩
          refine ⟨_, rfl, ?_⟩
          have n0_ := am (Kd.R_elder' (by (with_reducible repeat (first | apply Kd.R_alloc | apply Kd.R_drewN | apply Kd.R_drew)); exact HO_500001.out) (Kd.R_base ho0) hb)
          have n1_ := am (Kd.R_lower (Kd.R_new' ho0 (Kd.R_lt (by (with_reducible repeat (first | apply Kd.R_alloc | apply Kd.R_drewN | apply Kd.R_drew)); exact HO_500001.out))) (below_size pw))
          have n2_ := bb BK493 hb
          have n3_ := bb BK499 hb
          have n4_ := bb BK511 hb
          have n5_ := am (below_step pw hb)
          clear HO_500001 BK493 BK499 BK511 HB
          revert n0_ n1_ n2_ n3_ n4_ n5_
          intro HO_500001 HO505 BK493 BK499 BK511 HB
          (try clear hb)
          (try clear hb2)
          (try clear hk)
          (try clear hi)
          (try clear ho0)
          obtain ⟨Ao31, co31, eo31⟩ := Kd.R_slice HO505.out
          (first | subst eo31 | (injection eo31 with f1_ f2_ f3_; have f4_ := f1_.symm; have f5_ := f3_.symm; clear f1_ f2_ f3_; subst f4_; subst f5_))
          refine hK.out _ _ ⟨bc BK499 0, bc BK499 1, ((HB.out.cell (World.block_lt_of_cell? w _ hw501_0)).trans hw501_0), ((HB.out.cell (World.block_lt_of_cell? w _ hw501_1)).trans hw501_1)⟩ (fun hHeld => ?_)
          clear hK K
          refine norm_ (a' := ?_) ?_ ?_
          rotate_left
          ·show Act.put _ (some 47) _ = _
           simp only [Act.put, List.setIfInBounds_toArray, List.set_cons_zero, List.set_cons_succ, i64_w, i32_w]
           rfl
          refine one_ (i := 6) (N := some 48) #[true, true, true, true, true, true, true, false, false, false, true, false, false] rfl rfl (one_of HT_.out kk) (by decide) (fun K hK => ?_)
          refine goes_ Tryd.func50 kk rfl #[.agg #[.int .i64 x500000_2, .slice Ao27 x500001_2.length co27], .agg #[.int .i64 t502, .slice Ao31 t503.length co31]] (by rfl) rfl rfl (by (try simp only [List.map_toArray, List.map_cons, List.map_nil]); first | done | rfl | (simp only [List.length_drop, List.length_take]; rfl)) ?_
          with_reducible refine (octagon_Widen.calls x500000_2 _ _ x500001_2 t502 _ _ t503 t506 t507 none _ ?side1 ?side2 ?side3 ?side4 A23.out (am (ErrAt.below hE2.out pw)).out (am (ErrAt.below hE3.out pw)).out (am (ErrAt.below hE7.out pw)).out).mono ?_
          (case side1 => repeat (first | exact (Kd.R_reads' HO_500001.out).2.2 | (with_reducible refine Kd.C_alloc ?_ _) | (with_reducible refine Kd.C_drewN ?_ _) | (with_reducible refine Kd.C_drew ?_)))
          (case side2 => exact (Kd.R_reads' HO_500001.out).2.1)
          (case side3 => repeat (first | exact (Kd.R_reads' HO505.out).2.2 | (with_reducible refine Kd.C_alloc ?_ _) | (with_reducible refine Kd.C_drewN ?_ _) | (with_reducible refine Kd.C_drew ?_)))
          (case side4 => exact (Kd.R_reads' HO505.out).2.1)
          rintro e w32 ⟨v508, rfl, ho0, hb⟩
          refine ⟨_, rfl, ?_⟩
          have n0_ := am (Kd.R_elder' (by (with_reducible repeat (first | apply Kd.R_alloc | apply Kd.R_drewN | apply Kd.R_drew)); exact HO_500001.out) (Kd.R_base ho0) hb)
          have n1_ := am (Kd.R_elder' (by (with_reducible repeat (first | apply Kd.R_alloc | apply Kd.R_drewN | apply Kd.R_drew)); exact HO505.out) (Kd.R_base ho0) hb)
          have n2_ := am (Kd.R_lower (Kd.R_new' (Kd.R_new' ho0 (Kd.R_lt (by (with_reducible repeat (first | apply Kd.R_alloc | apply Kd.R_drewN | apply Kd.R_drew)); exact HO_500001.out))) (Kd.R_lt (by (with_reducible repeat (first | apply Kd.R_alloc | apply Kd.R_drewN | apply Kd.R_drew)); exact HO505.out))) (below_size pw))
          have n3_ := bb BK493 hb
          have n4_ := bb BK499 hb
          have n5_ := bb BK511 hb
          have n6_ := am (below_step pw hb)
          clear HO_500001 HO505 BK493 BK499 BK511 HB
          revert n0_ n1_ n2_ n3_ n4_ n5_ n6_
          intro HO_500001 HO505 HO509 BK493 BK499 BK511 HB
          (try clear hb)
          (try clear hb2)
          (try clear hk)
          (try clear hi)
          (try clear ho0)
          (try simp only [errW_none, errW_some])
          refine hK.out _ _ ⟨bc BK499 0, bc BK499 1, ((HB.out.cell (World.block_lt_of_cell? w _ hw501_0)).trans hw501_0), ((HB.out.cell (World.block_lt_of_cell? w _ hw501_1)).trans hw501_1)⟩ (fun hHeld => ?_)
          clear hK K
          refine norm_ (a' := ?_) ?_ ?_
          rotate_left
          ·show Act.put _ (some 48) _ = _
           simp only [Act.put, List.setIfInBounds_toArray, List.set_cons_zero, List.set_cons_succ, i64_w, i32_w]
           rfl
          refine pure_ (i := 7) (N := some 41) (v := ?_) (a' := ?_) #[true, true, true, true, true, true, true, true, false, false, true, false, false] rfl rfl (any_of HT_.out kk) (fun _ _ _ h => h) (Or.inl ⟨by rfl, ?_⟩) ?_ ?_
          rotate_left
          ·intro w'
           go_simp
           with_reducible rfl
          rotate_left
          ·simp only [Act.put, List.setIfInBounds_toArray, List.set_cons_zero, List.set_cons_succ, i64_w, i32_w]
           rfl
          refine pure_ (i := 8) (N := some 49) (v := ?_) (a' := ?_) #[true, true, true, true, true, true, true, true, true, false, true, false, false] rfl rfl (any_of HT_.out kk) (fun _ _ _ h => h) (Or.inl ⟨by rfl, ?_⟩) ?_ ?_
          rotate_left
          ·intro w'
           go_simp
           with_reducible rfl
          rotate_left
          ·simp only [Act.put, List.setIfInBounds_toArray, List.set_cons_zero, List.set_cons_succ, i64_w, i32_w]
           rfl
          refine pure_ (i := 9) (N := some 50) (v := ?_) (a' := ?_) #[true, true, true, true, true, true, true, true, true, true, true, false, false] rfl rfl (any_of HT_.out kk) (fun _ _ _ h => h) (Or.inl ⟨by rfl, ?_⟩) ?_ ?_
          rotate_left
          ·intro w'
           go_simp
           with_reducible rfl
          rotate_left
          ·simp only [Act.put, List.setIfInBounds_toArray, List.set_cons_zero, List.set_cons_succ, i64_w, i32_w]
           rfl
          exact norm_ (by simp only [putAll, Act.put, List.setIfInBounds_toArray, List.set_cons_zero, List.set_cons_succ, errW_none, errW_some]) (hCont (.slice Ao31 t503.length co31, v508, gb511) _ ⟨hHeld, (by (with_reducible repeat (first | apply Kd.R_alloc | apply Kd.R_drewN | apply Kd.R_drew)); exact Kd.R_mono HO505.out (fun _ hk => ⟨hk.2, hk.1.2⟩)), (by (with_reducible repeat (first | apply Kd.R_alloc | apply Kd.R_drewN | apply Kd.R_drew)); exact Kd.R_mono HO509.out (fun _ hk => ⟨hk.2, hk.1.2⟩)), (by (with_reducible repeat (first | apply Kd.R_alloc | apply Kd.R_drewN | apply Kd.R_drew)); exact Kd.R_mono HO_500001.out (fun _ hk => ⟨hk.1.2, hk.2⟩)), pk, pk, pk, GW511.out, GE511.out, NB493_511.out, NB511_493.out, NB499_511.out, NB511_499.out, pw⟩)
         rintro ⟨v504, v508, gb511⟩ w33 ⟨hS_, h0_, h1_, h2_, h3_, h4_, h5_, h6_, h7_, h8_, h9_, h10_, h11_, h12_⟩
         have n0_ : Aside0 (Kd.R k95 95 w33 w.heap.size (fun k_ => some k_ ≠ (v508 : Value).ownBlock ∧ some k_ ≠ (.slice Ao27 x500001_2.length co27 : Value).ownBlock) v504 t503) := ⟨h0_⟩
         have n1_ : Aside0 (Kd.R k95 95 w33 w.heap.size (fun k_ => some k_ ≠ (v504 : Value).ownBlock ∧ some k_ ≠ (.slice Ao27 x500001_2.length co27 : Value).ownBlock) v508 t507) := ⟨h1_⟩
         have n2_ : Aside0 (Kd.R k95 95 w33 w.heap.size (fun k_ => some k_ ≠ (v504 : Value).ownBlock ∧ some k_ ≠ (v508 : Value).ownBlock) (.slice Ao27 x500001_2.length co27) x500001_2) := ⟨h2_⟩
         have n3_ : Aside0 (w33.heap[gb493]? = some (.cells #[.int .i64 a0_0, .slice A0_1 l0_1.length c0_1] 78 (0, 0))) := ⟨h3_⟩
         have n4_ : Aside0 (w33.heap[gb499]? = some (.cells #[.int .i64 x500000_2, .slice Ao27 x500001_2.length co27] 82 (0, 0))) := ⟨h4_⟩
         have n5_ : Aside0 (w33.heap[gb511]? = some (.cells #[.int .i64 0, .slice none 0 0] 82 (0, 0))) := ⟨h5_⟩
         have n6_ : Aside0 (w.heap.size ≤ gb511) := ⟨h6_⟩
         have n7_ : Aside0 (w.heap.size ≤ gb511) := ⟨h7_⟩
         have n8_ : Aside0 (gb493 ≠ gb511) := ⟨h8_⟩
         have n9_ : Aside0 (gb511 ≠ gb493) := ⟨h9_⟩
         have n10_ : Aside0 (gb499 ≠ gb511) := ⟨h10_⟩
         have n11_ : Aside0 (gb511 ≠ gb499) := ⟨h11_⟩
         have n12_ : Aside0 (Below w.heap.size w w33) := ⟨h12_⟩
         clear HO_500001
         clear BK493
         clear BK499
         clear HB
         clear h0_ h1_ h2_ h3_ h4_ h5_ h6_ h7_ h8_ h9_ h10_ h11_ h12_
         revert n0_ n1_ n2_ n3_ n4_ n5_ n6_ n7_ n8_ n9_ n10_ n11_ n12_
         intro HO505 HO509 HO_500001 BK493 BK499 BK511 GW511 GE511 NB493_511 NB511_493 NB499_511 NB511_499 HB
         have hHeld : w33.cell? ⟨gb499, 0, none⟩ = some (.int .i64 x500000_2) ∧ w33.cell? ⟨gb499, 1, none⟩ = some (.slice Ao27 x500001_2.length co27) ∧ w33.cell? (ad500.add ((x8_2).toNat * 2)) = some (.int .i64 ((rd_T78 l1 x8_2).f0)) ∧ w33.cell? ⟨(ad500.add ((x8_2).toNat * 2)).block, (ad500.add ((x8_2).toNat * 2)).off + 1, none⟩ = some (.slice A501_1 ((rd_T78 l1 x8_2).f1).length c501_1) := hS_
         obtain ⟨Ao35, co35, eo35⟩ := Kd.R_slice HO509.out
         (first | subst eo35 | (injection eo35 with f1_ f2_ f3_; have f4_ := f1_.symm; have f5_ := f3_.symm; clear f1_ f2_ f3_; subst f4_; subst f5_))
         refine norm_ (a' := ?_) ?_ ?_
         rotate_left
         ·simp only [putAll, Act.put, List.setIfInBounds_toArray, List.set_cons_zero, List.set_cons_succ]
          rfl
         refine one_ (i := 11) (N := none) #[true, true, true, true, true, true, true, true, true, true, true, true, false] rfl rfl (one_of HT_.out kk) (by decide) (fun K hK => ?_)
         have hs34 : w33.cell? ⟨gb511, 0, none⟩ = some (.int .i64 0) := bc BK511 0
         have hfs34 := blk_frozen BK511.out 0
         have hns34_0 := NB493_511.out
         have hns34_1 := NB499_511.out
         have hms34_0 := NB511_493.out
         have hms34_1 := NB511_499.out
         have hs36 : w33.cell? ⟨gb511, 1, none⟩ = some (.slice none 0 0) := bc BK511 1
         have hfs36 := blk_frozen BK511.out 1
         have hns36_0 := NB493_511.out
         have hns36_1 := NB499_511.out
         have hms36_0 := NB511_493.out
         have hms36_1 := NB511_499.out
         refine skip_ (w1 := ?_) (by rfl) rfl ?_ ?_
         rotate_left
         ·go_simp
          rfl
         refine hK.out _ _ ⟨((cell_far (p := ⟨gb511, _, none⟩) NB499_511.out _).trans (((cell_far (p := ⟨gb511, _, none⟩) NB499_511.out _).trans (hHeld.1)))), ((cell_far (p := ⟨gb511, _, none⟩) NB499_511.out _).trans (((cell_far (p := ⟨gb511, _, none⟩) NB499_511.out _).trans (hHeld.2.1)))), ((cell_far (p := ⟨gb511, _, none⟩) (by first | exact Nat.ne_of_lt (Nat.lt_of_lt_of_le (by have := World.block_lt_of_cell? _ _ hw501_0; first | rwa [add_block] at this | exact this) GW511.out) | (rw [add_block]; exact Nat.ne_of_lt (Nat.lt_of_lt_of_le (by have := World.block_lt_of_cell? _ _ hw501_0; first | rwa [add_block] at this | exact this) GW511.out)) | (show (Addr.add _ _).block ≠ _; rw [add_block]; exact Nat.ne_of_lt (Nat.lt_of_lt_of_le (by have := World.block_lt_of_cell? _ _ hw501_0; first | rwa [add_block] at this | exact this) GW511.out)) | (dsimp only; exact Nat.ne_of_lt (Nat.lt_of_lt_of_le (by have := World.block_lt_of_cell? _ _ hw501_0; first | rwa [add_block] at this | exact this) GW511.out))) _).trans (((cell_far (p := ⟨gb511, _, none⟩) (by first | exact Nat.ne_of_lt (Nat.lt_of_lt_of_le (by have := World.block_lt_of_cell? _ _ hw501_0; first | rwa [add_block] at this | exact this) GW511.out) | (rw [add_block]; exact Nat.ne_of_lt (Nat.lt_of_lt_of_le (by have := World.block_lt_of_cell? _ _ hw501_0; first | rwa [add_block] at this | exact this) GW511.out)) | (show (Addr.add _ _).block ≠ _; rw [add_block]; exact Nat.ne_of_lt (Nat.lt_of_lt_of_le (by have := World.block_lt_of_cell? _ _ hw501_0; first | rwa [add_block] at this | exact this) GW511.out)) | (dsimp only; exact Nat.ne_of_lt (Nat.lt_of_lt_of_le (by have := World.block_lt_of_cell? _ _ hw501_0; first | rwa [add_block] at this | exact this) GW511.out))) _).trans (hHeld.2.2.1)))), ((cell_far (p := ⟨gb511, _, none⟩) (by first | exact Nat.ne_of_lt (Nat.lt_of_lt_of_le (by have := World.block_lt_of_cell? _ _ hw501_1; first | rwa [add_block] at this | exact this) GW511.out) | (rw [add_block]; exact Nat.ne_of_lt (Nat.lt_of_lt_of_le (by have := World.block_lt_of_cell? _ _ hw501_1; first | rwa [add_block] at this | exact this) GW511.out)) | (show (Addr.add _ _).block ≠ _; rw [add_block]; exact Nat.ne_of_lt (Nat.lt_of_lt_of_le (by have := World.block_lt_of_cell? _ _ hw501_1; first | rwa [add_block] at this | exact this) GW511.out)) | (dsimp only; exact Nat.ne_of_lt (Nat.lt_of_lt_of_le (by have := World.block_lt_of_cell? _ _ hw501_1; first | rwa [add_block] at this | exact this) GW511.out))) _).trans (((cell_far (p := ⟨gb511, _, none⟩) (by first | exact Nat.ne_of_lt (Nat.lt_of_lt_of_le (by have := World.block_lt_of_cell? _ _ hw501_1; first | rwa [add_block] at this | exact this) GW511.out) | (rw [add_block]; exact Nat.ne_of_lt (Nat.lt_of_lt_of_le (by have := World.block_lt_of_cell? _ _ hw501_1; first | rwa [add_block] at this | exact this) GW511.out)) | (show (Addr.add _ _).block ≠ _; rw [add_block]; exact Nat.ne_of_lt (Nat.lt_of_lt_of_le (by have := World.block_lt_of_cell? _ _ hw501_1; first | rwa [add_block] at this | exact this) GW511.out)) | (dsimp only; exact Nat.ne_of_lt (Nat.lt_of_lt_of_le (by have := World.block_lt_of_cell? _ _ hw501_1; first | rwa [add_block] at this | exact this) GW511.out))) _).trans (hHeld.2.2.2))))⟩ (fun hHeld => ?_)
         clear hK K
         refine pure_ (i := 12) (N := some 10) (v := ?_) (a' := ?_) #[true, true, true, true, true, true, true, true, true, true, true, true, true] rfl rfl (any_of HT_.out kk) (fun _ _ _ h => h) (Or.inl ⟨by rfl, ?_⟩) ?_ ?_
         rotate_left
         ·intro w'
          go_simp
          with_reducible rfl
         rotate_left
         ·simp only [Act.put, List.setIfInBounds_toArray, List.set_cons_zero, List.set_cons_succ, i64_w, i32_w]
          rfl
         refine done_ (done_of HT_.out kk) ?_
         (try simp only [errW_none, errW_some])
         try go_wp2
         have n0_ : Aside0 (Kd.R k95 95 ((w33.setCell ⟨gb511, 0, none⟩ (.int .i64 t506)).setCell ⟨gb511, 1, none⟩ (.slice Ao35 t507.length co35)) w.heap.size (fun k_ => some k_ ≠ (v504 : Value).ownBlock ∧ some k_ ≠ (.slice Ao35 t507.length co35 : Value).ownBlock) (.slice Ao27 x500001_2.length co27) x500001_2) := ⟨by (with_reducible repeat (first | apply Kd.R_alloc | apply Kd.R_drewN | apply Kd.R_drew)); exact Kd.R_mono (Kd.R_far (p := ⟨gb511, 1, none⟩) (Kd.R_far (p := ⟨gb511, 0, none⟩) (Kd.R_types HO_500001.out BK511.out (by decide)) (fun _ hk => hk.2) (.int .i64 t506)) (fun _ hk => hk.2) (.slice Ao35 t507.length co35)) (fun _ hk => ⟨hk.1.1, hk.1.2⟩)⟩
         have n1_ : Aside0 (Kd.R k95 95 ((w33.setCell ⟨gb511, 0, none⟩ (.int .i64 t506)).setCell ⟨gb511, 1, none⟩ (.slice Ao35 t507.length co35)) w.heap.size (fun k_ => some k_ ≠ (.slice Ao27 x500001_2.length co27 : Value).ownBlock ∧ some k_ ≠ (.slice Ao35 t507.length co35 : Value).ownBlock) v504 t503) := ⟨by (with_reducible repeat (first | apply Kd.R_alloc | apply Kd.R_drewN | apply Kd.R_drew)); exact Kd.R_mono (Kd.R_far (p := ⟨gb511, 1, none⟩) (Kd.R_far (p := ⟨gb511, 0, none⟩) (Kd.R_types HO505.out BK511.out (by decide)) (fun _ hk => hk.2) (.int .i64 t506)) (fun _ hk => hk.2) (.slice Ao35 t507.length co35)) (fun _ hk => ⟨hk.1.2, hk.1.1⟩)⟩
         have n2_ : Aside0 (Kd.R k95 95 ((w33.setCell ⟨gb511, 0, none⟩ (.int .i64 t506)).setCell ⟨gb511, 1, none⟩ (.slice Ao35 t507.length co35)) w.heap.size (fun k_ => some k_ ≠ (.slice Ao27 x500001_2.length co27 : Value).ownBlock ∧ some k_ ≠ (v504 : Value).ownBlock) (.slice Ao35 t507.length co35) t507) := ⟨by (with_reducible repeat (first | apply Kd.R_alloc | apply Kd.R_drewN | apply Kd.R_drew)); exact Kd.R_mono (Kd.R_far (p := ⟨gb511, 1, none⟩) (Kd.R_far (p := ⟨gb511, 0, none⟩) (Kd.R_types HO509.out BK511.out (by decide)) (fun _ hk => hk.2) (.int .i64 t506)) (fun _ hk => hk.2) (.slice Ao35 t507.length co35)) (fun _ hk => ⟨hk.1.2, hk.1.1⟩)⟩
         have n3_ : Aside0 (((w33.setCell ⟨gb511, 0, none⟩ (.int .i64 t506)).setCell ⟨gb511, 1, none⟩ (.slice Ao35 t507.length co35)).heap[gb493]? = some (.cells #[.int .i64 a0_0, .slice A0_1 l0_1.length c0_1] 78 (0, 0))) := ⟨by (with_reducible repeat (first | refine blk_drewN ?_ _ | refine blk_drew ?_ | refine blk_alloc ?_ _)); refine blk_far ?_ NB493_511.out _; (with_reducible repeat (first | refine blk_drewN ?_ _ | refine blk_drew ?_ | refine blk_alloc ?_ _)); refine blk_far ?_ NB493_511.out _; (with_reducible repeat (first | refine blk_drewN ?_ _ | refine blk_drew ?_ | refine blk_alloc ?_ _)); exact BK493.out⟩
         have n4_ : Aside0 (((w33.setCell ⟨gb511, 0, none⟩ (.int .i64 t506)).setCell ⟨gb511, 1, none⟩ (.slice Ao35 t507.length co35)).heap[gb499]? = some (.cells #[.int .i64 x500000_2, .slice Ao27 x500001_2.length co27] 82 (0, 0))) := ⟨by (with_reducible repeat (first | refine blk_drewN ?_ _ | refine blk_drew ?_ | refine blk_alloc ?_ _)); refine blk_far ?_ NB499_511.out _; (with_reducible repeat (first | refine blk_drewN ?_ _ | refine blk_drew ?_ | refine blk_alloc ?_ _)); refine blk_far ?_ NB499_511.out _; (with_reducible repeat (first | refine blk_drewN ?_ _ | refine blk_drew ?_ | refine blk_alloc ?_ _)); exact BK499.out⟩
         have n5_ : Aside0 (((w33.setCell ⟨gb511, 0, none⟩ (.int .i64 t506)).setCell ⟨gb511, 1, none⟩ (.slice Ao35 t507.length co35)).heap[gb511]? = some (.cells #[.int .i64 t506, .slice Ao35 t507.length co35] 82 (0, 0))) := ⟨by (with_reducible repeat (first | refine blk_drewN ?_ _ | refine blk_drew ?_ | refine blk_alloc ?_ _)); refine blk_put (cs := #[.int .i64 t506, .slice none 0 0]) ?_ 1 _ rfl; (with_reducible repeat (first | refine blk_drewN ?_ _ | refine blk_drew ?_ | refine blk_alloc ?_ _)); refine blk_put (cs := #[.int .i64 0, .slice none 0 0]) ?_ 0 _ rfl; (with_reducible repeat (first | refine blk_drewN ?_ _ | refine blk_drew ?_ | refine blk_alloc ?_ _)); exact BK511.out⟩
         have n6_ : Aside0 (Below w.heap.size w ((w33.setCell ⟨gb511, 0, none⟩ (.int .i64 t506)).setCell ⟨gb511, 1, none⟩ (.slice Ao35 t507.length co35))) := ⟨pw⟩
         (try clear HO_500001)
         (try clear HO505)
         (try clear HO509)
         (try clear BK493)
         (try clear BK499)
         (try clear BK511)
         (try clear HB)
         generalize ((w33.setCell ⟨gb511, 0, none⟩ (.int .i64 t506)).setCell ⟨gb511, 1, none⟩ (.slice Ao35 t507.length co35)) = w37 at n0_ n1_ n2_ n3_ n4_ n5_ n6_ ⊢
         revert n0_ n1_ n2_ n3_ n4_ n5_ n6_
         intro HO_500001 HO505 HO509 BK493 BK499 BK511 HB
         have n0_ := am (Kd.R_drew HO_500001.out)
         have n1_ := am (Kd.R_drew HO505.out)
         have n2_ := am (Kd.R_drew HO509.out)
         have n3_ := am (blk_drew BK493.out)
         have n4_ := am (blk_drew BK499.out)
         have n5_ := am (blk_drew BK511.out)
         have n6_ := am (below_drew1 HB.out)
         clear HO_500001 HO505 HO509 BK493 BK499 BK511 HB
         revert n0_ n1_ n2_ n3_ n4_ n5_ n6_
         intro HO_500001 HO505 HO509 BK493 BK499 BK511 HB
         refine start_ (n := 5) (S := fun w' => w'.cell? ⟨gb511, 0, none⟩ = some (.int .i64 t506) ∧ w'.cell? ⟨gb511, 1, none⟩ = some (.slice Ao35 t507.length co35) ∧ w'.cell? ⟨gb499, 0, none⟩ = some (.int .i64 x500000_2) ∧ w'.cell? ⟨gb499, 1, none⟩ = some (.slice Ao27 x500001_2.length co27)) (ds := []) #[false, false, false, false, false] kk rfl rfl ⟨bc BK511 0, bc BK511 1, bc BK499 0, bc BK499 1⟩ (fun hHeld => ?_)
         generalize w37.drew = w38 at HO_500001 HO505 HO509 BK493 BK499 BK511 HB hHeld ⊢
         refine take_ (i := 0) (N := some 53) (v := ?_) (a' := ?_) #[true, false, false, false, false] rfl rfl kk (fun _ _ _ h => h) (Or.inl ⟨by rfl, ?_⟩) hHeld ?_ ?_
         rotate_left
         ·rintro w' ⟨s0, s1, s2, s3⟩
          go_simp
          with_reducible rfl
         rotate_left
         ·simp only [Act.put, List.setIfInBounds_toArray, List.set_cons_zero, List.set_cons_succ, i64_w, i32_w]
          rfl
         refine take_ (i := 1) (N := some 54) (v := ?_) (a' := ?_) #[true, true, false, false, false] rfl rfl kk (fun _ _ _ h => h) (Or.inl ⟨by rfl, ?_⟩) hHeld ?_ ?_
         rotate_left
         ·rintro w' ⟨s0, s1, s2, s3⟩
          go_simp
          with_reducible rfl
         rotate_left
         ·simp only [Act.put, List.setIfInBounds_toArray, List.set_cons_zero, List.set_cons_succ, i64_w, i32_w]
          rfl
         refine one_ (i := 2) (N := some 55) #[true, true, true, false, false] rfl rfl kk (by decide) (fun K hK => ?_)
         refine goes_ Tryd.func52 kk rfl #[.agg #[.int .i64 x500000_2, .slice Ao27 x500001_2.length co27]] (by rfl) rfl rfl (by (try simp only [List.map_toArray, List.map_cons, List.map_nil]); first | done | rfl | (simp only [List.length_drop, List.length_take]; rfl)) ?_
         with_reducible refine (L2_octBack.calls k2 x500000_2 _ _ x500001_2 t513 t514 _ ?side1 ?side2 A24.out).mono ?_
         (case side1 => repeat (first | exact (Kd.R_reads' HO_500001.out).2.2 | (with_reducible refine Kd.C_alloc ?_ _) | (with_reducible refine Kd.C_drewN ?_ _) | (with_reducible refine Kd.C_drew ?_)))
         (case side2 => exact (Kd.R_reads' HO_500001.out).2.1)
         rintro e w39 ⟨v515, rfl, ho0, hb⟩
         refine ⟨_, rfl, ?_⟩
         have n0_ := am (Kd.R_below (by (with_reducible repeat (first | apply Kd.R_alloc | apply Kd.R_drewN | apply Kd.R_drew)); exact HO_500001.out) hb)
         have n1_ := am (Kd.R_below (by (with_reducible repeat (first | apply Kd.R_alloc | apply Kd.R_drewN | apply Kd.R_drew)); exact HO505.out) hb)
         have n2_ := am (Kd.R_below (by (with_reducible repeat (first | apply Kd.R_alloc | apply Kd.R_drewN | apply Kd.R_drew)); exact HO509.out) hb)
         have n3_ := am (Kd.R_lower ho0 (below_size pw))
         have n4_ := bb BK493 hb
         have n5_ := bb BK499 hb
         have n6_ := bb BK511 hb
         have n7_ := am (below_step pw hb)
         clear HO_500001 HO505 HO509 BK493 BK499 BK511 HB
         revert n0_ n1_ n2_ n3_ n4_ n5_ n6_ n7_
         intro HO_500001 HO505 HO509 HO516 BK493 BK499 BK511 HB
         (try clear hb)
         (try clear hb2)
         (try clear hk)
         (try clear hi)
         (try clear ho0)
         obtain ⟨Ao40, co40, eo40⟩ := Kd.R_slice HO516.out
         (first | subst eo40 | (injection eo40 with f1_ f2_ f3_; have f4_ := f1_.symm; have f5_ := f3_.symm; clear f1_ f2_ f3_; subst f4_; subst f5_))
         refine hK.out _ _ ⟨bc BK511 0, bc BK511 1, bc BK499 0, bc BK499 1⟩ (fun hHeld => ?_)
         clear hK K
         refine norm_ (a' := ?_) ?_ ?_
         rotate_left
         ·show Act.put _ (some 55) _ = _
          simp only [Act.put, List.setIfInBounds_toArray, List.set_cons_zero, List.set_cons_succ, i64_w, i32_w]
          rfl
         refine one_ (i := 3) (N := some 56) #[true, true, true, true, false] rfl rfl kk (by decide) (fun K hK => ?_)
         refine goes_ Tryd.func51 kk rfl #[.agg #[.int .i64 t506, .slice Ao35 t507.length co35], .agg #[.int .i64 t513, .slice Ao40 t514.length co40]] (by rfl) rfl rfl (by (try simp only [List.map_toArray, List.map_cons, List.map_nil]); first | done | rfl | (simp only [List.length_drop, List.length_take]; rfl)) ?_
         with_reducible refine (L2_isOct.calls k2 t506 _ _ t507 t513 _ _ t514 true _ ?side1 ?side2 ?side3 ?side4 A25.out).mono ?_
         (case side1 => repeat (first | exact (Kd.R_reads' HO509.out).2.2 | (with_reducible refine Kd.C_alloc ?_ _) | (with_reducible refine Kd.C_drewN ?_ _) | (with_reducible refine Kd.C_drew ?_)))
         (case side2 => exact (Kd.R_reads' HO509.out).2.1)
         (case side3 => repeat (first | exact (Kd.R_reads' HO516.out).2.2 | (with_reducible refine Kd.C_alloc ?_ _) | (with_reducible refine Kd.C_drewN ?_ _) | (with_reducible refine Kd.C_drew ?_)))
         (case side4 => exact (Kd.R_reads' HO516.out).2.1)
         rintro e w41 ⟨rfl, hb⟩
         refine ⟨_, rfl, ?_⟩
         have n0_ := am (Kd.R_below (by (with_reducible repeat (first | apply Kd.R_alloc | apply Kd.R_drewN | apply Kd.R_drew)); exact HO_500001.out) hb)
         have n1_ := am (Kd.R_below (by (with_reducible repeat (first | apply Kd.R_alloc | apply Kd.R_drewN | apply Kd.R_drew)); exact HO505.out) hb)
         have n2_ := am (Kd.R_below (by (with_reducible repeat (first | apply Kd.R_alloc | apply Kd.R_drewN | apply Kd.R_drew)); exact HO509.out) hb)
         have n3_ := am (Kd.R_below (by (with_reducible repeat (first | apply Kd.R_alloc | apply Kd.R_drewN | apply Kd.R_drew)); exact HO516.out) hb)
         have n4_ := bb BK493 hb
         have n5_ := bb BK499 hb
         have n6_ := bb BK511 hb
         have n7_ := am (below_step pw hb)
         clear HO_500001 HO505 HO509 HO516 BK493 BK499 BK511 HB
         revert n0_ n1_ n2_ n3_ n4_ n5_ n6_ n7_
         intro HO_500001 HO505 HO509 HO516 BK493 BK499 BK511 HB
         (try clear hb)
         (try clear hb2)
         (try clear hk)
         (try clear hi)
         refine hK.out _ _ ⟨bc BK511 0, bc BK511 1, bc BK499 0, bc BK499 1⟩ (fun hHeld => ?_)
         clear hK K
         refine norm_ (a' := ?_) ?_ ?_
         rotate_left
         ·show Act.put _ (some 56) _ = _
          simp only [Act.put, List.setIfInBounds_toArray, List.set_cons_zero, List.set_cons_succ, i64_w, i32_w]
          rfl
         refine pure_ (i := 4) (N := some 57) (v := ?_) (a' := ?_) #[true, true, true, true, true] rfl rfl kk (fun _ _ _ h => h) (Or.inl ⟨by rfl, ?_⟩) ?_ ?_
         rotate_left
         ·intro w'
          go_simp
          with_reducible rfl
         rotate_left
         ·simp only [Act.put, List.setIfInBounds_toArray, List.set_cons_zero, List.set_cons_succ, i64_w, i32_w]
          rfl
         refine done_ kk ?_
         have hnb42 := NB511_493.out
         have hnc42 := NB493_511.out
         have hnb43 := NB511_499.out
         have hnc43 := NB499_511.out
         have hcz44_0 : w41.cell? ⟨gb511, 0, none⟩ = some (.int .i64 t506) := bc BK511 0
         have hcz44_1 : w41.cell? ⟨gb511, 1, none⟩ = some (.slice Ao35 t507.length co35) := bc BK511 1
         have hfz44_0 := blk_frozen BK511.out 0
         have hfz44_1 := blk_frozen BK511.out 1
         have hnb45 := NB499_493.out
         have hnc45 := NB493_499.out
         have hcz46_0 : w41.cell? ⟨gb499, 0, none⟩ = some (.int .i64 x500000_2) := bc BK499 0
         have hcz46_1 : w41.cell? ⟨gb499, 1, none⟩ = some (.slice Ao27 x500001_2.length co27) := bc BK499 1
         have hfz46_0 := blk_frozen BK499.out 0
         have hfz46_1 := blk_frozen BK499.out 1
         try go_wp2
         go_roundg k2
         case measure => have := HJ3.out; have := HK2.out; omega
         case rel => exact ⟨(x7_2), (wrap64 (x8_2 + 1)), (t506), (t507), (.slice Ao35 t507.length co35), pr, pr, H', ⟨by have := HJ3.out; have := HK2.out; omega⟩, ⟨by (with_reducible repeat (first | apply Kd.R_alloc | apply Kd.R_drewN | apply Kd.R_drew)); exact Kd.R_mono (Kd.R_far (p := ⟨gb499, 1, none⟩) (Kd.R_far (p := ⟨gb499, 0, none⟩) (Kd.R_types HO509.out BK499.out (by decide)) (fun _ hk => hk.2) (.int .i64 t506)) (fun _ hk => hk.2) (.slice Ao35 t507.length co35)) (fun _ hk => trivial)⟩, ⟨by (with_reducible repeat (first | refine blk_drewN ?_ _ | refine blk_drew ?_ | refine blk_alloc ?_ _)); refine blk_far ?_ NB493_499.out _; (with_reducible repeat (first | refine blk_drewN ?_ _ | refine blk_drew ?_ | refine blk_alloc ?_ _)); refine blk_far ?_ NB493_499.out _; (with_reducible repeat (first | refine blk_drewN ?_ _ | refine blk_drew ?_ | refine blk_alloc ?_ _)); exact BK493.out⟩, ⟨by (with_reducible repeat (first | refine blk_drewN ?_ _ | refine blk_drew ?_ | refine blk_alloc ?_ _)); refine blk_put (cs := #[.int .i64 t506, .slice Ao27 x500001_2.length co27]) ?_ 1 _ rfl; (with_reducible repeat (first | refine blk_drewN ?_ _ | refine blk_drew ?_ | refine blk_alloc ?_ _)); refine blk_put (cs := #[.int .i64 x500000_2, .slice Ao27 x500001_2.length co27]) ?_ 0 _ rfl; (with_reducible repeat (first | refine blk_drewN ?_ _ | refine blk_drew ?_ | refine blk_alloc ?_ _)); exact BK499.out⟩, ⟨pw⟩⟩
       replace c26 := Bool.eq_false_iff.mpr c26
       subst c26
       have H1 : (L2_OctStays.l0 k2 l1 (wrap64 (x7_2 + 1)) (wrap64 (x8_2 + 1)) a0_0 l0_1 t506 t507) = some r := by rw [if_neg (show ¬ (false = true) by decide)] at H; exact H
       clear H
       have H := H1
       clear H1
       as_aux_lemma =>
        have H' := am H
        clear H
        have p500 : 0 ≤ (x8_2 : Int) := of_decide_eq_true (by first | (with_reducible assumption) | assumption)
        have q500 : x8_2 < (l1.length : Int) := of_decide_eq_true (by first | (with_reducible assumption) | assumption)
        obtain ⟨ad500, A500_1, c500_1, e500, hx500_0, hx500_1, hl500_1, hi500_1⟩ := at_T78 HR1.out x8_2 p500 q500
        cases e500
        replace hx500_0 := (HB.out.cell (World.block_lt_of_cell? w _ hx500_0)).trans hx500_0
        replace hx500_1 := (HB.out.cell (World.block_lt_of_cell? w _ hx500_1)).trans hx500_1
        have HR500_1 := am hi500_1
        have HC500_1 := am hl500_1
        clear hi500_1 hl500_1
        replace p500 := eq_true p500
        replace q500 := eq_true q500
        obtain ⟨Ao47, co47, eo47⟩ := Kd.R_slice HO_500001.out
        subst eo47
        try go_wp2
        have n0_ := am (Kd.R_drew HO_500001.out)
        have n1_ := am (blk_drew BK493.out)
        have n2_ := am (blk_drew BK499.out)
        have n3_ := am (below_drew1 HB.out)
        clear HO_500001 BK493 BK499 HB
        revert n0_ n1_ n2_ n3_
        intro HO_500001 BK493 BK499 HB
        have p501 : 0 ≤ (x8_2 : Int) := of_decide_eq_true (by first | (with_reducible assumption) | assumption)
        have q501 : x8_2 < (l1.length : Int) := of_decide_eq_true (by first | (with_reducible assumption) | assumption)
        obtain ⟨ad501, A501_1, c501_1, e501, hx501_0, hx501_1, hl501_1, hi501_1⟩ := at_T78 HR1.out x8_2 p501 q501
        have hw501_1 := hx501_1
        have hw501_0 := hx501_0
        obtain rfl : ad500 = ad501 := (by injection e501)
        replace hx501_0 := (HB.out.cell (World.block_lt_of_cell? w _ hx501_0)).trans hx501_0
        replace hx501_1 := (HB.out.cell (World.block_lt_of_cell? w _ hx501_1)).trans hx501_1
        have HR501_1 := am hi501_1
        have HC501_1 := am hl501_1
        clear hi501_1 hl501_1
        replace p501 := eq_true p501
        replace q501 := eq_true q501
        refine start_ (n := 13) (S := fun w' => w'.cell? ⟨gb499, 0, none⟩ = some (.int .i64 x500000_2) ∧ w'.cell? ⟨gb499, 1, none⟩ = some (.slice Ao47 x500001_2.length co47) ∧ w'.cell? (ad500.add ((x8_2).toNat * 2)) = some (.int .i64 ((rd_T78 l1 x8_2).f0)) ∧ w'.cell? ⟨(ad500.add ((x8_2).toNat * 2)).block, (ad500.add ((x8_2).toNat * 2)).off + 1, none⟩ = some (.slice A501_1 ((rd_T78 l1 x8_2).f1).length c501_1)) (ds := []) #[false, false, false, false, false, false, false, false, false, false, false, false, false] kk rfl rfl ⟨bc BK499 0, bc BK499 1, ((HB.out.cell (World.block_lt_of_cell? w _ hw501_0)).trans hw501_0), ((HB.out.cell (World.block_lt_of_cell? w _ hw501_1)).trans hw501_1)⟩ (fun hHeld => ?_); refine with_tabW L2_OctStays.tab11 L2_OctStays.bits11 (fun HT_ HW_ => ?_)
        generalize wr.drew = w48 at HO_500001 BK493 BK499 HB HR501_1 hx501_0 hx501_1 hHeld ⊢
        refine pure_ (i := 1) (N := some 43) (v := ?_) (a' := ?_) #[false, true, false, false, false, false, false, false, false, false, false, false, false] rfl rfl (any_of HT_.out kk) (fun _ _ _ h => h) (Or.inl ⟨by rfl, ?_⟩) ?_ ?_
        rotate_left
        ·intro w'
         go_simp
         with_reducible rfl
        rotate_left
        ·simp only [Act.put, List.setIfInBounds_toArray, List.set_cons_zero, List.set_cons_succ, i64_w, i32_w]
         rfl
        refine pure_ (i := 2) (N := some 44) (v := ?_) (a' := ?_) #[false, true, true, false, false, false, false, false, false, false, false, false, false] rfl rfl (any_of HT_.out kk) (fun _ _ _ h => h) (Or.inl ⟨by rfl, ?_⟩) ?_ ?_
        rotate_left
        ·intro w'
         go_simp
         with_reducible rfl
        rotate_left
        ·simp only [Act.put, List.setIfInBounds_toArray, List.set_cons_zero, List.set_cons_succ, i64_w, i32_w]
         rfl
        refine pure_ (i := 3) (N := some 45) (v := ?_) (a' := ?_) #[false, true, true, true, false, false, false, false, false, false, false, false, false] rfl rfl (any_of HT_.out kk) (fun _ _ _ h => h) (Or.inl ⟨by rfl, ?_⟩) ?_ ?_
        rotate_left
        ·intro w'
         go_simp
         with_reducible rfl
        rotate_left
        ·simp only [Act.put, List.setIfInBounds_toArray, List.set_cons_zero, List.set_cons_succ, i64_w, i32_w]
         rfl
        refine take_ (i := 0) (N := some 42) (v := ?_) (a' := ?_) #[true, true, true, true, false, false, false, false, false, false, false, false, false] rfl rfl (take_ofW HT_.out HW_.out kk) (fun _ _ _ h => h) (Or.inl ⟨by rfl, ?_⟩) hHeld ?_ ?_
        rotate_left
        ·rintro w' ⟨s0, s1, s2, s3⟩
         go_simp
         with_reducible rfl
        rotate_left
        ·simp only [Act.put, List.setIfInBounds_toArray, List.set_cons_zero, List.set_cons_succ, i64_w, i32_w]
         rfl
        refine take_ (i := 4) (N := some 46) (v := ?_) (a' := ?_) #[true, true, true, true, true, false, false, false, false, false, false, false, false] rfl rfl (take_ofW HT_.out HW_.out kk) (fun _ _ _ h => h) (Or.inl ⟨by rfl, ?_⟩) hHeld ?_ ?_
        rotate_left
        ·rintro w' ⟨s0, s1, s2, s3⟩
         go_simp
         with_reducible rfl
        rotate_left
        ·simp only [Act.put, List.setIfInBounds_toArray, List.set_cons_zero, List.set_cons_succ, i64_w, i32_w]
         rfl
        refine join_ (σ := Value × Value × Nat) 2 #[true, true, true, true, true, true, true, true, true, true, true, false, false] (fun s_ => [(47, .agg #[.int .i64 t502, s_.1]), (48, .tuple #[.agg #[.int .i64 t506, s_.2.1], .nilIface]), (9, .pointer (some ⟨s_.2.2, 0, none⟩)), (41, .tuple #[.agg #[.int .i64 t506, s_.2.1], .nilIface]), (49, .agg #[.int .i64 t506, s_.2.1]), (50, .nilIface)]) (fun s_ w' => (w'.cell? ⟨gb499, 0, none⟩ = some (.int .i64 x500000_2) ∧ w'.cell? ⟨gb499, 1, none⟩ = some (.slice Ao47 x500001_2.length co47) ∧ w'.cell? (ad500.add ((x8_2).toNat * 2)) = some (.int .i64 ((rd_T78 l1 x8_2).f0)) ∧ w'.cell? ⟨(ad500.add ((x8_2).toNat * 2)).block, (ad500.add ((x8_2).toNat * 2)).off + 1, none⟩ = some (.slice A501_1 ((rd_T78 l1 x8_2).f1).length c501_1)) ∧ (Kd.R k95 95 w' w.heap.size (fun k_ => some k_ ≠ (s_.2.1 : Value).ownBlock ∧ some k_ ≠ (.slice Ao47 x500001_2.length co47 : Value).ownBlock) s_.1 t503) ∧ (Kd.R k95 95 w' w.heap.size (fun k_ => some k_ ≠ (s_.1 : Value).ownBlock ∧ some k_ ≠ (.slice Ao47 x500001_2.length co47 : Value).ownBlock) s_.2.1 t507) ∧ (Kd.R k95 95 w' w.heap.size (fun k_ => some k_ ≠ (s_.1 : Value).ownBlock ∧ some k_ ≠ (s_.2.1 : Value).ownBlock) (.slice Ao47 x500001_2.length co47) x500001_2) ∧ (w'.heap[gb493]? = some (.cells #[.int .i64 a0_0, .slice A0_1 l0_1.length c0_1] 78 (0, 0))) ∧ (w'.heap[gb499]? = some (.cells #[.int .i64 x500000_2, .slice Ao47 x500001_2.length co47] 82 (0, 0))) ∧ (w'.heap[s_.2.2]? = some (.cells #[.int .i64 0, .slice none 0 0] 82 (0, 0))) ∧ (w.heap.size ≤ s_.2.2) ∧ (w.heap.size ≤ s_.2.2) ∧ (gb493 ≠ s_.2.2) ∧ (s_.2.2 ≠ gb493) ∧ (gb499 ≠ s_.2.2) ∧ (s_.2.2 ≠ gb499) ∧ (Below w.heap.size w w')) ?_ ?_
        rotate_left
        ·intro hCont
         refine two_ (i := 5) (j := 10) (Ni := some 47) (Nj := some 9) #[true, true, true, true, true, true, false, false, false, false, false, false, false] #[true, true, true, true, true, false, false, false, false, false, true, false, false] rfl rfl rfl rfl (two_of HT_.out kk) (by decide) (by decide) (fun K hK => ?_) (fun K hK => ?_)
         ·skip
          refine goes_ Tryd.func49 kk rfl #[.agg #[.int .i64 ((rd_T78 l1 x8_2).f0), .slice A501_1 ((rd_T78 l1 x8_2).f1).length c501_1]] (by rfl) rfl rfl (by (try simp only [List.map_toArray, List.map_cons, List.map_nil]); first | done | rfl | (simp only [List.length_drop, List.length_take]; rfl)) ?_
          with_reducible refine (L2_octOf.calls k2 ((rd_T78 l1 x8_2).f0) _ _ ((rd_T78 l1 x8_2).f1) t502 t503 _ ?side1 ?side2 A22.out).mono ?_
          (case side1 => repeat (first | exact (Kd.C_below HR501_1.out HB.out) | (with_reducible refine Kd.C_alloc ?_ _) | (with_reducible refine Kd.C_drewN ?_ _) | (with_reducible refine Kd.C_drew ?_)))
          (case side2 => exact HC501_1.out)
          rintro e w49 ⟨v504, rfl, ho0, hb⟩
          refine ⟨_, rfl, ?_⟩
          have n0_ := am (Kd.R_elder' (by (with_reducible repeat (first | apply Kd.R_alloc | apply Kd.R_drewN | apply Kd.R_drew)); exact HO_500001.out) (Kd.R_base ho0) hb)
          have n1_ := am (Kd.R_lower (Kd.R_new' ho0 (Kd.R_lt (by (with_reducible repeat (first | apply Kd.R_alloc | apply Kd.R_drewN | apply Kd.R_drew)); exact HO_500001.out))) (below_size pw))
          have n2_ := bb BK493 hb
          have n3_ := bb BK499 hb
          have n4_ := am (below_step pw hb)
          clear HO_500001 BK493 BK499 HB
          revert n0_ n1_ n2_ n3_ n4_
          intro HO_500001 HO505 BK493 BK499 HB
          (try clear hb)
          (try clear hb2)
          (try clear hk)
          (try clear hi)
          (try clear ho0)
          obtain ⟨Ao50, co50, eo50⟩ := Kd.R_slice HO505.out
          (first | subst eo50 | (injection eo50 with f1_ f2_ f3_; have f4_ := f1_.symm; have f5_ := f3_.symm; clear f1_ f2_ f3_; subst f4_; subst f5_))
          refine hK.out _ _ ⟨bc BK499 0, bc BK499 1, ((HB.out.cell (World.block_lt_of_cell? w _ hw501_0)).trans hw501_0), ((HB.out.cell (World.block_lt_of_cell? w _ hw501_1)).trans hw501_1)⟩ (fun hHeld => ?_)
          clear hK K
          refine norm_ (a' := ?_) ?_ ?_
          rotate_left
          ·show Act.put _ (some 47) _ = _
           simp only [Act.put, List.setIfInBounds_toArray, List.set_cons_zero, List.set_cons_succ, i64_w, i32_w]
           rfl
          refine two_ (i := 6) (j := 10) (Ni := some 48) (Nj := some 9) #[true, true, true, true, true, true, true, false, false, false, false, false, false] #[true, true, true, true, true, true, false, false, false, false, true, false, false] rfl rfl rfl rfl (two_of HT_.out kk) (by decide) (by decide) (fun K hK => ?_) (fun K hK => ?_)
          ·skip
           refine goes_ Tryd.func50 kk rfl #[.agg #[.int .i64 x500000_2, .slice Ao47 x500001_2.length co47], .agg #[.int .i64 t502, .slice Ao50 t503.length co50]] (by rfl) rfl rfl (by (try simp only [List.map_toArray, List.map_cons, List.map_nil]); first | done | rfl | (simp only [List.length_drop, List.length_take]; rfl)) ?_
           with_reducible refine (octagon_Widen.calls x500000_2 _ _ x500001_2 t502 _ _ t503 t506 t507 none _ ?side1 ?side2 ?side3 ?side4 A23.out (am (ErrAt.below hE2.out pw)).out (am (ErrAt.below hE3.out pw)).out (am (ErrAt.below hE7.out pw)).out).mono ?_
           (case side1 => repeat (first | exact (Kd.R_reads' HO_500001.out).2.2 | (with_reducible refine Kd.C_alloc ?_ _) | (with_reducible refine Kd.C_drewN ?_ _) | (with_reducible refine Kd.C_drew ?_)))
           (case side2 => exact (Kd.R_reads' HO_500001.out).2.1)
           (case side3 => repeat (first | exact (Kd.R_reads' HO505.out).2.2 | (with_reducible refine Kd.C_alloc ?_ _) | (with_reducible refine Kd.C_drewN ?_ _) | (with_reducible refine Kd.C_drew ?_)))
           (case side4 => exact (Kd.R_reads' HO505.out).2.1)
           rintro e w51 ⟨v508, rfl, ho0, hb⟩
           refine ⟨_, rfl, ?_⟩
           have n0_ := am (Kd.R_elder' (by (with_reducible repeat (first | apply Kd.R_alloc | apply Kd.R_drewN | apply Kd.R_drew)); exact HO_500001.out) (Kd.R_base ho0) hb)
           have n1_ := am (Kd.R_elder' (by (with_reducible repeat (first | apply Kd.R_alloc | apply Kd.R_drewN | apply Kd.R_drew)); exact HO505.out) (Kd.R_base ho0) hb)
           have n2_ := am (Kd.R_lower (Kd.R_new' (Kd.R_new' ho0 (Kd.R_lt (by (with_reducible repeat (first | apply Kd.R_alloc | apply Kd.R_drewN | apply Kd.R_drew)); exact HO_500001.out))) (Kd.R_lt (by (with_reducible repeat (first | apply Kd.R_alloc | apply Kd.R_drewN | apply Kd.R_drew)); exact HO505.out))) (below_size pw))
           have n3_ := bb BK493 hb
           have n4_ := bb BK499 hb
           have n5_ := am (below_step pw hb)
           clear HO_500001 HO505 BK493 BK499 HB
           revert n0_ n1_ n2_ n3_ n4_ n5_
           intro HO_500001 HO505 HO509 BK493 BK499 HB
           (try clear hb)
           (try clear hb2)
           (try clear hk)
           (try clear hi)
           (try clear ho0)
           (try simp only [errW_none, errW_some])
           refine hK.out _ _ ⟨bc BK499 0, bc BK499 1, ((HB.out.cell (World.block_lt_of_cell? w _ hw501_0)).trans hw501_0), ((HB.out.cell (World.block_lt_of_cell? w _ hw501_1)).trans hw501_1)⟩ (fun hHeld => ?_)
           clear hK K
           refine norm_ (a' := ?_) ?_ ?_
           rotate_left
           ·show Act.put _ (some 48) _ = _
            simp only [Act.put, List.setIfInBounds_toArray, List.set_cons_zero, List.set_cons_succ, i64_w, i32_w]
            rfl
           refine pure_ (i := 7) (N := some 41) (v := ?_) (a' := ?_) #[true, true, true, true, true, true, true, true, false, false, false, false, false] rfl rfl (any_of HT_.out kk) (fun _ _ _ h => h) (Or.inl ⟨by rfl, ?_⟩) ?_ ?_
           rotate_left
           ·intro w'
            go_simp
            with_reducible rfl
           rotate_left
           ·simp only [Act.put, List.setIfInBounds_toArray, List.set_cons_zero, List.set_cons_succ, i64_w, i32_w]
            rfl
           refine pure_ (i := 8) (N := some 49) (v := ?_) (a' := ?_) #[true, true, true, true, true, true, true, true, true, false, false, false, false] rfl rfl (any_of HT_.out kk) (fun _ _ _ h => h) (Or.inl ⟨by rfl, ?_⟩) ?_ ?_
           rotate_left
           ·intro w'
            go_simp
            with_reducible rfl
           rotate_left
           ·simp only [Act.put, List.setIfInBounds_toArray, List.set_cons_zero, List.set_cons_succ, i64_w, i32_w]
            rfl
           refine pure_ (i := 9) (N := some 50) (v := ?_) (a' := ?_) #[true, true, true, true, true, true, true, true, true, true, false, false, false] rfl rfl (any_of HT_.out kk) (fun _ _ _ h => h) (Or.inl ⟨by rfl, ?_⟩) ?_ ?_
           rotate_left
           ·intro w'
            go_simp
            with_reducible rfl
           rotate_left
           ·simp only [Act.put, List.setIfInBounds_toArray, List.set_cons_zero, List.set_cons_succ, i64_w, i32_w]
            rfl
           refine one_ (i := 10) (N := some 9) #[true, true, true, true, true, true, true, true, true, true, true, false, false] rfl rfl (one_of HT_.out kk) (by decide) (fun K hK => ?_)
           refine box_step ?hg (N := 9) ?hd (cs := #[.int .i64 0, .slice none 0 0]) (t := 82) ?hr ?_; (case hd => rfl); (case hg => rfl); (case hr => first | (go_simp; done) | (go_simp; rfl))
           intro gb511 hg w52 hbox hb
           have n0_ := am (Kd.R_below (by (with_reducible repeat (first | apply Kd.R_alloc | apply Kd.R_drewN | apply Kd.R_drew)); exact HO_500001.out) hb)
           have n1_ := am (Kd.R_below (by (with_reducible repeat (first | apply Kd.R_alloc | apply Kd.R_drewN | apply Kd.R_drew)); exact HO505.out) hb)
           have n2_ := am (Kd.R_below (by (with_reducible repeat (first | apply Kd.R_alloc | apply Kd.R_drewN | apply Kd.R_drew)); exact HO509.out) hb)
           have n3_ := bb BK493 hb
           have n4_ := bb BK499 hb
           have n5_ := am (below_step pw hb)
           have n6_ := am (hbox)
           have n7_ := am ((by rw [hg]; exact (below_size pw) : w.heap.size ≤ gb511))
           have n8_ := am ((by rw [hg]; exact (below_size pw) : w.heap.size ≤ gb511))
           have n9_ := am ((by rw [hg]; exact Nat.ne_of_lt (blk_lt pk) : gb493 ≠ gb511))
           have n10_ := am ((by rw [hg]; exact Nat.ne_of_gt (blk_lt pk) : gb511 ≠ gb493))
           have n11_ := am ((by rw [hg]; exact Nat.ne_of_lt (blk_lt pk) : gb499 ≠ gb511))
           have n12_ := am ((by rw [hg]; exact Nat.ne_of_gt (blk_lt pk) : gb511 ≠ gb499))
           clear HO_500001 HO505 HO509 BK493 BK499 HB
           revert n0_ n1_ n2_ n3_ n4_ n5_ n6_ n7_ n8_ n9_ n10_ n11_ n12_
           intro HO_500001 HO505 HO509 BK493 BK499 HB BK511 GW511 GE511 NB493_511 NB511_493 NB499_511 NB511_499
           clear hb hbox hg
           refine hK.out _ _ ⟨bc BK499 0, bc BK499 1, ((HB.out.cell (World.block_lt_of_cell? w _ hw501_0)).trans hw501_0), ((HB.out.cell (World.block_lt_of_cell? w _ hw501_1)).trans hw501_1)⟩ (fun hHeld => ?_)
           clear hK K
           refine norm_ (a' := ?_) ?_ ?_
           rotate_left
           ·show Act.put _ (some 9) _ = _
            simp only [Act.put, List.setIfInBounds_toArray, List.set_cons_zero, List.set_cons_succ, i64_w, i32_w]
            rfl
           exact norm_ (by simp only [putAll, Act.put, List.setIfInBounds_toArray, List.set_cons_zero, List.set_cons_succ, errW_none, errW_some]) (hCont (.slice Ao50 t503.length co50, v508, gb511) _ ⟨hHeld, (by (with_reducible repeat (first | apply Kd.R_alloc | apply Kd.R_drewN | apply Kd.R_drew)); exact Kd.R_mono HO505.out (fun _ hk => ⟨hk.2, hk.1.2⟩)), (by (with_reducible repeat (first | apply Kd.R_alloc | apply Kd.R_drewN | apply Kd.R_drew)); exact Kd.R_mono HO509.out (fun _ hk => ⟨hk.2, hk.1.2⟩)), (by (with_reducible repeat (first | apply Kd.R_alloc | apply Kd.R_drewN | apply Kd.R_drew)); exact Kd.R_mono HO_500001.out (fun _ hk => ⟨hk.1.2, hk.2⟩)), pk, pk, pk, GW511.out, GE511.out, NB493_511.out, NB511_493.out, NB499_511.out, NB511_499.out, pw⟩)
          skip
          refine box_step ?hg (N := 9) ?hd (cs := #[.int .i64 0, .slice none 0 0]) (t := 82) ?hr ?_; (case hd => rfl); (case hg => rfl); (case hr => first | (go_simp; done) | (go_simp; rfl))
          intro gb511 hg w50 hbox hb
          have n0_ := am (Kd.R_below (by (with_reducible repeat (first | apply Kd.R_alloc | apply Kd.R_drewN | apply Kd.R_drew)); exact HO_500001.out) hb)
          have n1_ := am (Kd.R_below (by (with_reducible repeat (first | apply Kd.R_alloc | apply Kd.R_drewN | apply Kd.R_drew)); exact HO505.out) hb)
          have n2_ := bb BK493 hb
          have n3_ := bb BK499 hb
          have n4_ := am (below_step pw hb)
          have n5_ := am (hbox)
          have n6_ := am ((by rw [hg]; exact (below_size pw) : w.heap.size ≤ gb511))
          have n7_ := am ((by rw [hg]; exact (below_size pw) : w.heap.size ≤ gb511))
          have n8_ := am ((by rw [hg]; exact Nat.ne_of_lt (blk_lt pk) : gb493 ≠ gb511))
          have n9_ := am ((by rw [hg]; exact Nat.ne_of_gt (blk_lt pk) : gb511 ≠ gb493))
          have n10_ := am ((by rw [hg]; exact Nat.ne_of_lt (blk_lt pk) : gb499 ≠ gb511))
          have n11_ := am ((by rw [hg]; exact Nat.ne_of_gt (blk_lt pk) : gb511 ≠ gb499))
          clear HO_500001 HO505 BK493 BK499 HB
          revert n0_ n1_ n2_ n3_ n4_ n5_ n6_ n7_ n8_ n9_ n10_ n11_
          intro HO_500001 HO505 BK493 BK499 HB BK511 GW511 GE511 NB493_511 NB511_493 NB499_511 NB511_499
          clear hb hbox hg
          obtain ⟨Ao51, co51, eo51⟩ := Kd.R_slice HO505.out
          (first | subst eo51 | (injection eo51 with f1_ f2_ f3_; have f4_ := f1_.symm; have f5_ := f3_.symm; clear f1_ f2_ f3_; subst f4_; subst f5_))
          refine hK.out _ _ ⟨bc BK499 0, bc BK499 1, ((HB.out.cell (World.block_lt_of_cell? w _ hw501_0)).trans hw501_0), ((HB.out.cell (World.block_lt_of_cell? w _ hw501_1)).trans hw501_1)⟩ (fun hHeld => ?_)
          clear hK K
          refine norm_ (a' := ?_) ?_ ?_
          rotate_left
          ·show Act.put _ (some 9) _ = _
           simp only [Act.put, List.setIfInBounds_toArray, List.set_cons_zero, List.set_cons_succ, i64_w, i32_w]
           rfl
          refine one_ (i := 6) (N := some 48) #[true, true, true, true, true, true, true, false, false, false, true, false, false] rfl rfl (one_of HT_.out kk) (by decide) (fun K hK => ?_)
          refine goes_ Tryd.func50 kk rfl #[.agg #[.int .i64 x500000_2, .slice Ao47 x500001_2.length co47], .agg #[.int .i64 t502, .slice Ao51 t503.length co51]] (by rfl) rfl rfl (by (try simp only [List.map_toArray, List.map_cons, List.map_nil]); first | done | rfl | (simp only [List.length_drop, List.length_take]; rfl)) ?_
          with_reducible refine (octagon_Widen.calls x500000_2 _ _ x500001_2 t502 _ _ t503 t506 t507 none _ ?side1 ?side2 ?side3 ?side4 A23.out (am (ErrAt.below hE2.out pw)).out (am (ErrAt.below hE3.out pw)).out (am (ErrAt.below hE7.out pw)).out).mono ?_
          (case side1 => repeat (first | exact (Kd.R_reads' HO_500001.out).2.2 | (with_reducible refine Kd.C_alloc ?_ _) | (with_reducible refine Kd.C_drewN ?_ _) | (with_reducible refine Kd.C_drew ?_)))
          (case side2 => exact (Kd.R_reads' HO_500001.out).2.1)
          (case side3 => repeat (first | exact (Kd.R_reads' HO505.out).2.2 | (with_reducible refine Kd.C_alloc ?_ _) | (with_reducible refine Kd.C_drewN ?_ _) | (with_reducible refine Kd.C_drew ?_)))
          (case side4 => exact (Kd.R_reads' HO505.out).2.1)
          rintro e w52 ⟨v508, rfl, ho0, hb⟩
          refine ⟨_, rfl, ?_⟩
          have n0_ := am (Kd.R_elder' (by (with_reducible repeat (first | apply Kd.R_alloc | apply Kd.R_drewN | apply Kd.R_drew)); exact HO_500001.out) (Kd.R_base ho0) hb)
          have n1_ := am (Kd.R_elder' (by (with_reducible repeat (first | apply Kd.R_alloc | apply Kd.R_drewN | apply Kd.R_drew)); exact HO505.out) (Kd.R_base ho0) hb)
          have n2_ := am (Kd.R_lower (Kd.R_new' (Kd.R_new' ho0 (Kd.R_lt (by (with_reducible repeat (first | apply Kd.R_alloc | apply Kd.R_drewN | apply Kd.R_drew)); exact HO_500001.out))) (Kd.R_lt (by (with_reducible repeat (first | apply Kd.R_alloc | apply Kd.R_drewN | apply Kd.R_drew)); exact HO505.out))) (below_size pw))
          have n3_ := bb BK493 hb
          have n4_ := bb BK499 hb
          have n5_ := bb BK511 hb
          have n6_ := am (below_step pw hb)
          clear HO_500001 HO505 BK493 BK499 BK511 HB
          revert n0_ n1_ n2_ n3_ n4_ n5_ n6_
          intro HO_500001 HO505 HO509 BK493 BK499 BK511 HB
          (try clear hb)
          (try clear hb2)
          (try clear hk)
          (try clear hi)
          (try clear ho0)
          (try simp only [errW_none, errW_some])
          refine hK.out _ _ ⟨bc BK499 0, bc BK499 1, ((HB.out.cell (World.block_lt_of_cell? w _ hw501_0)).trans hw501_0), ((HB.out.cell (World.block_lt_of_cell? w _ hw501_1)).trans hw501_1)⟩ (fun hHeld => ?_)
          clear hK K
          refine norm_ (a' := ?_) ?_ ?_
          rotate_left
          ·show Act.put _ (some 48) _ = _
           simp only [Act.put, List.setIfInBounds_toArray, List.set_cons_zero, List.set_cons_succ, i64_w, i32_w]
           rfl
          refine pure_ (i := 7) (N := some 41) (v := ?_) (a' := ?_) #[true, true, true, true, true, true, true, true, false, false, true, false, false] rfl rfl (any_of HT_.out kk) (fun _ _ _ h => h) (Or.inl ⟨by rfl, ?_⟩) ?_ ?_
          rotate_left
          ·intro w'
           go_simp
           with_reducible rfl
          rotate_left
          ·simp only [Act.put, List.setIfInBounds_toArray, List.set_cons_zero, List.set_cons_succ, i64_w, i32_w]
           rfl
          refine pure_ (i := 8) (N := some 49) (v := ?_) (a' := ?_) #[true, true, true, true, true, true, true, true, true, false, true, false, false] rfl rfl (any_of HT_.out kk) (fun _ _ _ h => h) (Or.inl ⟨by rfl, ?_⟩) ?_ ?_
          rotate_left
          ·intro w'
           go_simp
           with_reducible rfl
          rotate_left
          ·simp only [Act.put, List.setIfInBounds_toArray, List.set_cons_zero, List.set_cons_succ, i64_w, i32_w]
           rfl
          refine pure_ (i := 9) (N := some 50) (v := ?_) (a' := ?_) #[true, true, true, true, true, true, true, true, true, true, true, false, false] rfl rfl (any_of HT_.out kk) (fun _ _ _ h => h) (Or.inl ⟨by rfl, ?_⟩) ?_ ?_
          rotate_left
          ·intro w'
           go_simp
           with_reducible rfl
          rotate_left
          ·simp only [Act.put, List.setIfInBounds_toArray, List.set_cons_zero, List.set_cons_succ, i64_w, i32_w]
           rfl
          exact norm_ (by simp only [putAll, Act.put, List.setIfInBounds_toArray, List.set_cons_zero, List.set_cons_succ, errW_none, errW_some]) (hCont (.slice Ao51 t503.length co51, v508, gb511) _ ⟨hHeld, (by (with_reducible repeat (first | apply Kd.R_alloc | apply Kd.R_drewN | apply Kd.R_drew)); exact Kd.R_mono HO505.out (fun _ hk => ⟨hk.2, hk.1.2⟩)), (by (with_reducible repeat (first | apply Kd.R_alloc | apply Kd.R_drewN | apply Kd.R_drew)); exact Kd.R_mono HO509.out (fun _ hk => ⟨hk.2, hk.1.2⟩)), (by (with_reducible repeat (first | apply Kd.R_alloc | apply Kd.R_drewN | apply Kd.R_drew)); exact Kd.R_mono HO_500001.out (fun _ hk => ⟨hk.1.2, hk.2⟩)), pk, pk, pk, GW511.out, GE511.out, NB493_511.out, NB511_493.out, NB499_511.out, NB511_499.out, pw⟩)
         skip
         refine box_step ?hg (N := 9) ?hd (cs := #[.int .i64 0, .slice none 0 0]) (t := 82) ?hr ?_; (case hd => rfl); (case hg => rfl); (case hr => first | (go_simp; done) | (go_simp; rfl))
         intro gb511 hg w49 hbox hb
         have n0_ := am (Kd.R_below (by (with_reducible repeat (first | apply Kd.R_alloc | apply Kd.R_drewN | apply Kd.R_drew)); exact HO_500001.out) hb)
         have n1_ := bb BK493 hb
         have n2_ := bb BK499 hb
         have n3_ := am (below_step pw hb)
         have n4_ := am (hbox)
         have n5_ := am ((by rw [hg]; exact (below_size pw) : w.heap.size ≤ gb511))
         have n6_ := am ((by rw [hg]; exact (below_size pw) : w.heap.size ≤ gb511))
         have n7_ := am ((by rw [hg]; exact Nat.ne_of_lt (blk_lt pk) : gb493 ≠ gb511))
         have n8_ := am ((by rw [hg]; exact Nat.ne_of_gt (blk_lt pk) : gb511 ≠ gb493))
         have n9_ := am ((by rw [hg]; exact Nat.ne_of_lt (blk_lt pk) : gb499 ≠ gb511))
         have n10_ := am ((by rw [hg]; exact Nat.ne_of_gt (blk_lt pk) : gb511 ≠ gb499))
         clear HO_500001 BK493 BK499 HB
         revert n0_ n1_ n2_ n3_ n4_ n5_ n6_ n7_ n8_ n9_ n10_
         intro HO_500001 BK493 BK499 HB BK511 GW511 GE511 NB493_511 NB511_493 NB499_511 NB511_499
         clear hb hbox hg
         refine hK.out _ _ ⟨bc BK499 0, bc BK499 1, ((HB.out.cell (World.block_lt_of_cell? w _ hw501_0)).trans hw501_0), ((HB.out.cell (World.block_lt_of_cell? w _ hw501_1)).trans hw501_1)⟩ (fun hHeld => ?_)
         clear hK K
         refine norm_ (a' := ?_) ?_ ?_
         rotate_left
         ·show Act.put _ (some 9) _ = _
          simp only [Act.put, List.setIfInBounds_toArray, List.set_cons_zero, List.set_cons_succ, i64_w, i32_w]
          rfl
         refine one_ (i := 5) (N := some 47) #[true, true, true, true, true, true, false, false, false, false, true, false, false] rfl rfl (one_of HT_.out kk) (by decide) (fun K hK => ?_)
         refine goes_ Tryd.func49 kk rfl #[.agg #[.int .i64 ((rd_T78 l1 x8_2).f0), .slice A501_1 ((rd_T78 l1 x8_2).f1).length c501_1]] (by rfl) rfl rfl (by (try simp only [List.map_toArray, List.map_cons, List.map_nil]); first | done | rfl | (simp only [List.length_drop, List.length_take]; rfl)) ?_
         with_reducible refine (L2_octOf.calls k2 ((rd_T78 l1 x8_2).f0) _ _ ((rd_T78 l1 x8_2).f1) t502 t503 _ ?side1 ?side2 A22.out).mono ?_
         (case side1 => repeat (first | exact (Kd.C_below HR501_1.out HB.out) | (with_reducible refine Kd.C_alloc ?_ _) | (with_reducible refine Kd.C_drewN ?_ _) | (with_reducible refine Kd.C_drew ?_)))
         (case side2 => exact HC501_1.out)
         rintro e w50 ⟨v504, rfl, ho0, hb⟩
         refine ⟨_, rfl, ?_⟩
         have n0_ := am (Kd.R_elder' (by (with_reducible repeat (first | apply Kd.R_alloc | apply Kd.R_drewN | apply Kd.R_drew)); exact HO_500001.out) (Kd.R_base ho0) hb)
         have n1_ := am (Kd.R_lower (Kd.R_new' ho0 (Kd.R_lt (by (with_reducible repeat (first | apply Kd.R_alloc | apply Kd.R_drewN | apply Kd.R_drew)); exact HO_500001.out))) (below_size pw))
         have n2_ := bb BK493 hb
         have n3_ := bb BK499 hb
         have n4_ := bb BK511 hb
         have n5_ := am (below_step pw hb)
         clear HO_500001 BK493 BK499 BK511 HB
         revert n0_ n1_ n2_ n3_ n4_ n5_
         intro HO_500001 HO505 BK493 BK499 BK511 HB
         (try clear hb)
         (try clear hb2)
         (try clear hk)
         (try clear hi)
         (try clear ho0)
         obtain ⟨Ao51, co51, eo51⟩ := Kd.R_slice HO505.out
         (first | subst eo51 | (injection eo51 with f1_ f2_ f3_; have f4_ := f1_.symm; have f5_ := f3_.symm; clear f1_ f2_ f3_; subst f4_; subst f5_))
         refine hK.out _ _ ⟨bc BK499 0, bc BK499 1, ((HB.out.cell (World.block_lt_of_cell? w _ hw501_0)).trans hw501_0), ((HB.out.cell (World.block_lt_of_cell? w _ hw501_1)).trans hw501_1)⟩ (fun hHeld => ?_)
         clear hK K
         refine norm_ (a' := ?_) ?_ ?_
         rotate_left
         ·show Act.put _ (some 47) _ = _
          simp only [Act.put, List.setIfInBounds_toArray, List.set_cons_zero, List.set_cons_succ, i64_w, i32_w]
          rfl
         refine one_ (i := 6) (N := some 48) #[true, true, true, true, true, true, true, false, false, false, true, false, false] rfl rfl (one_of HT_.out kk) (by decide) (fun K hK => ?_)
         refine goes_ Tryd.func50 kk rfl #[.agg #[.int .i64 x500000_2, .slice Ao47 x500001_2.length co47], .agg #[.int .i64 t502, .slice Ao51 t503.length co51]] (by rfl) rfl rfl (by (try simp only [List.map_toArray, List.map_cons, List.map_nil]); first | done | rfl | (simp only [List.length_drop, List.length_take]; rfl)) ?_
         with_reducible refine (octagon_Widen.calls x500000_2 _ _ x500001_2 t502 _ _ t503 t506 t507 none _ ?side1 ?side2 ?side3 ?side4 A23.out (am (ErrAt.below hE2.out pw)).out (am (ErrAt.below hE3.out pw)).out (am (ErrAt.below hE7.out pw)).out).mono ?_
         (case side1 => repeat (first | exact (Kd.R_reads' HO_500001.out).2.2 | (with_reducible refine Kd.C_alloc ?_ _) | (with_reducible refine Kd.C_drewN ?_ _) | (with_reducible refine Kd.C_drew ?_)))
         (case side2 => exact (Kd.R_reads' HO_500001.out).2.1)
         (case side3 => repeat (first | exact (Kd.R_reads' HO505.out).2.2 | (with_reducible refine Kd.C_alloc ?_ _) | (with_reducible refine Kd.C_drewN ?_ _) | (with_reducible refine Kd.C_drew ?_)))
         (case side4 => exact (Kd.R_reads' HO505.out).2.1)
         rintro e w52 ⟨v508, rfl, ho0, hb⟩
         refine ⟨_, rfl, ?_⟩
         have n0_ := am (Kd.R_elder' (by (with_reducible repeat (first | apply Kd.R_alloc | apply Kd.R_drewN | apply Kd.R_drew)); exact HO_500001.out) (Kd.R_base ho0) hb)
         have n1_ := am (Kd.R_elder' (by (with_reducible repeat (first | apply Kd.R_alloc | apply Kd.R_drewN | apply Kd.R_drew)); exact HO505.out) (Kd.R_base ho0) hb)
         have n2_ := am (Kd.R_lower (Kd.R_new' (Kd.R_new' ho0 (Kd.R_lt (by (with_reducible repeat (first | apply Kd.R_alloc | apply Kd.R_drewN | apply Kd.R_drew)); exact HO_500001.out))) (Kd.R_lt (by (with_reducible repeat (first | apply Kd.R_alloc | apply Kd.R_drewN | apply Kd.R_drew)); exact HO505.out))) (below_size pw))
         have n3_ := bb BK493 hb
         have n4_ := bb BK499 hb
         have n5_ := bb BK511 hb
         have n6_ := am (below_step pw hb)
         clear HO_500001 HO505 BK493 BK499 BK511 HB
         revert n0_ n1_ n2_ n3_ n4_ n5_ n6_
         intro HO_500001 HO505 HO509 BK493 BK499 BK511 HB
         (try clear hb)
         (try clear hb2)
         (try clear hk)
         (try clear hi)
         (try clear ho0)
         (try simp only [errW_none, errW_some])
         refine hK.out _ _ ⟨bc BK499 0, bc BK499 1, ((HB.out.cell (World.block_lt_of_cell? w _ hw501_0)).trans hw501_0), ((HB.out.cell (World.block_lt_of_cell? w _ hw501_1)).trans hw501_1)⟩ (fun hHeld => ?_)
         clear hK K
         refine norm_ (a' := ?_) ?_ ?_
         rotate_left
         ·show Act.put _ (some 48) _ = _
          simp only [Act.put, List.setIfInBounds_toArray, List.set_cons_zero, List.set_cons_succ, i64_w, i32_w]
          rfl
         refine pure_ (i := 7) (N := some 41) (v := ?_) (a' := ?_) #[true, true, true, true, true, true, true, true, false, false, true, false, false] rfl rfl (any_of HT_.out kk) (fun _ _ _ h => h) (Or.inl ⟨by rfl, ?_⟩) ?_ ?_
         rotate_left
         ·intro w'
          go_simp
          with_reducible rfl
         rotate_left
         ·simp only [Act.put, List.setIfInBounds_toArray, List.set_cons_zero, List.set_cons_succ, i64_w, i32_w]
          rfl
         refine pure_ (i := 8) (N := some 49) (v := ?_) (a' := ?_) #[true, true, true, true, true, true, true, true, true, false, true, false, false] rfl rfl (any_of HT_.out kk) (fun _ _ _ h => h) (Or.inl ⟨by rfl, ?_⟩) ?_ ?_
         rotate_left
         ·intro w'
          go_simp
          with_reducible rfl
         rotate_left
         ·simp only [Act.put, List.setIfInBounds_toArray, List.set_cons_zero, List.set_cons_succ, i64_w, i32_w]
          rfl
         refine pure_ (i := 9) (N := some 50) (v := ?_) (a' := ?_) #[true, true, true, true, true, true, true, true, true, true, true, false, false] rfl rfl (any_of HT_.out kk) (fun _ _ _ h => h) (Or.inl ⟨by rfl, ?_⟩) ?_ ?_
         rotate_left
         ·intro w'
          go_simp
          with_reducible rfl
         rotate_left
         ·simp only [Act.put, List.setIfInBounds_toArray, List.set_cons_zero, List.set_cons_succ, i64_w, i32_w]
          rfl
         exact norm_ (by simp only [putAll, Act.put, List.setIfInBounds_toArray, List.set_cons_zero, List.set_cons_succ, errW_none, errW_some]) (hCont (.slice Ao51 t503.length co51, v508, gb511) _ ⟨hHeld, (by (with_reducible repeat (first | apply Kd.R_alloc | apply Kd.R_drewN | apply Kd.R_drew)); exact Kd.R_mono HO505.out (fun _ hk => ⟨hk.2, hk.1.2⟩)), (by (with_reducible repeat (first | apply Kd.R_alloc | apply Kd.R_drewN | apply Kd.R_drew)); exact Kd.R_mono HO509.out (fun _ hk => ⟨hk.2, hk.1.2⟩)), (by (with_reducible repeat (first | apply Kd.R_alloc | apply Kd.R_drewN | apply Kd.R_drew)); exact Kd.R_mono HO_500001.out (fun _ hk => ⟨hk.1.2, hk.2⟩)), pk, pk, pk, GW511.out, GE511.out, NB493_511.out, NB511_493.out, NB499_511.out, NB511_499.out, pw⟩)
        rintro ⟨v504, v508, gb511⟩ w53 ⟨hS_, h0_, h1_, h2_, h3_, h4_, h5_, h6_, h7_, h8_, h9_, h10_, h11_, h12_⟩
        have n0_ : Aside0 (Kd.R k95 95 w53 w.heap.size (fun k_ => some k_ ≠ (v508 : Value).ownBlock ∧ some k_ ≠ (.slice Ao47 x500001_2.length co47 : Value).ownBlock) v504 t503) := ⟨h0_⟩
        have n1_ : Aside0 (Kd.R k95 95 w53 w.heap.size (fun k_ => some k_ ≠ (v504 : Value).ownBlock ∧ some k_ ≠ (.slice Ao47 x500001_2.length co47 : Value).ownBlock) v508 t507) := ⟨h1_⟩
        have n2_ : Aside0 (Kd.R k95 95 w53 w.heap.size (fun k_ => some k_ ≠ (v504 : Value).ownBlock ∧ some k_ ≠ (v508 : Value).ownBlock) (.slice Ao47 x500001_2.length co47) x500001_2) := ⟨h2_⟩
        have n3_ : Aside0 (w53.heap[gb493]? = some (.cells #[.int .i64 a0_0, .slice A0_1 l0_1.length c0_1] 78 (0, 0))) := ⟨h3_⟩
        have n4_ : Aside0 (w53.heap[gb499]? = some (.cells #[.int .i64 x500000_2, .slice Ao47 x500001_2.length co47] 82 (0, 0))) := ⟨h4_⟩
        have n5_ : Aside0 (w53.heap[gb511]? = some (.cells #[.int .i64 0, .slice none 0 0] 82 (0, 0))) := ⟨h5_⟩
        have n6_ : Aside0 (w.heap.size ≤ gb511) := ⟨h6_⟩
        have n7_ : Aside0 (w.heap.size ≤ gb511) := ⟨h7_⟩
        have n8_ : Aside0 (gb493 ≠ gb511) := ⟨h8_⟩
        have n9_ : Aside0 (gb511 ≠ gb493) := ⟨h9_⟩
        have n10_ : Aside0 (gb499 ≠ gb511) := ⟨h10_⟩
        have n11_ : Aside0 (gb511 ≠ gb499) := ⟨h11_⟩
        have n12_ : Aside0 (Below w.heap.size w w53) := ⟨h12_⟩
        clear HO_500001
        clear BK493
        clear BK499
        clear HB
        clear h0_ h1_ h2_ h3_ h4_ h5_ h6_ h7_ h8_ h9_ h10_ h11_ h12_
        revert n0_ n1_ n2_ n3_ n4_ n5_ n6_ n7_ n8_ n9_ n10_ n11_ n12_
        intro HO505 HO509 HO_500001 BK493 BK499 BK511 GW511 GE511 NB493_511 NB511_493 NB499_511 NB511_499 HB
        have hHeld : w53.cell? ⟨gb499, 0, none⟩ = some (.int .i64 x500000_2) ∧ w53.cell? ⟨gb499, 1, none⟩ = some (.slice Ao47 x500001_2.length co47) ∧ w53.cell? (ad500.add ((x8_2).toNat * 2)) = some (.int .i64 ((rd_T78 l1 x8_2).f0)) ∧ w53.cell? ⟨(ad500.add ((x8_2).toNat * 2)).block, (ad500.add ((x8_2).toNat * 2)).off + 1, none⟩ = some (.slice A501_1 ((rd_T78 l1 x8_2).f1).length c501_1) := hS_
        obtain ⟨Ao55, co55, eo55⟩ := Kd.R_slice HO509.out
        (first | subst eo55 | (injection eo55 with f1_ f2_ f3_; have f4_ := f1_.symm; have f5_ := f3_.symm; clear f1_ f2_ f3_; subst f4_; subst f5_))
        refine norm_ (a' := ?_) ?_ ?_
        rotate_left
        ·simp only [putAll, Act.put, List.setIfInBounds_toArray, List.set_cons_zero, List.set_cons_succ]
         rfl
        refine one_ (i := 11) (N := none) #[true, true, true, true, true, true, true, true, true, true, true, true, false] rfl rfl (one_of HT_.out kk) (by decide) (fun K hK => ?_)
        have hs54 : w53.cell? ⟨gb511, 0, none⟩ = some (.int .i64 0) := bc BK511 0
        have hfs54 := blk_frozen BK511.out 0
        have hns54_0 := NB493_511.out
        have hns54_1 := NB499_511.out
        have hms54_0 := NB511_493.out
        have hms54_1 := NB511_499.out
        have hs56 : w53.cell? ⟨gb511, 1, none⟩ = some (.slice none 0 0) := bc BK511 1
        have hfs56 := blk_frozen BK511.out 1
        have hns56_0 := NB493_511.out
        have hns56_1 := NB499_511.out
        have hms56_0 := NB511_493.out
        have hms56_1 := NB511_499.out
        refine skip_ (w1 := ?_) (by rfl) rfl ?_ ?_
        rotate_left
        ·go_simp
         rfl
        refine hK.out _ _ ⟨((cell_far (p := ⟨gb511, _, none⟩) NB499_511.out _).trans (((cell_far (p := ⟨gb511, _, none⟩) NB499_511.out _).trans (hHeld.1)))), ((cell_far (p := ⟨gb511, _, none⟩) NB499_511.out _).trans (((cell_far (p := ⟨gb511, _, none⟩) NB499_511.out _).trans (hHeld.2.1)))), ((cell_far (p := ⟨gb511, _, none⟩) (by first | exact Nat.ne_of_lt (Nat.lt_of_lt_of_le (by have := World.block_lt_of_cell? _ _ hw501_0; first | rwa [add_block] at this | exact this) GW511.out) | (rw [add_block]; exact Nat.ne_of_lt (Nat.lt_of_lt_of_le (by have := World.block_lt_of_cell? _ _ hw501_0; first | rwa [add_block] at this | exact this) GW511.out)) | (show (Addr.add _ _).block ≠ _; rw [add_block]; exact Nat.ne_of_lt (Nat.lt_of_lt_of_le (by have := World.block_lt_of_cell? _ _ hw501_0; first | rwa [add_block] at this | exact this) GW511.out)) | (dsimp only; exact Nat.ne_of_lt (Nat.lt_of_lt_of_le (by have := World.block_lt_of_cell? _ _ hw501_0; first | rwa [add_block] at this | exact this) GW511.out))) _).trans (((cell_far (p := ⟨gb511, _, none⟩) (by first | exact Nat.ne_of_lt (Nat.lt_of_lt_of_le (by have := World.block_lt_of_cell? _ _ hw501_0; first | rwa [add_block] at this | exact this) GW511.out) | (rw [add_block]; exact Nat.ne_of_lt (Nat.lt_of_lt_of_le (by have := World.block_lt_of_cell? _ _ hw501_0; first | rwa [add_block] at this | exact this) GW511.out)) | (show (Addr.add _ _).block ≠ _; rw [add_block]; exact Nat.ne_of_lt (Nat.lt_of_lt_of_le (by have := World.block_lt_of_cell? _ _ hw501_0; first | rwa [add_block] at this | exact this) GW511.out)) | (dsimp only; exact Nat.ne_of_lt (Nat.lt_of_lt_of_le (by have := World.block_lt_of_cell? _ _ hw501_0; first | rwa [add_block] at this | exact this) GW511.out))) _).trans (hHeld.2.2.1)))), ((cell_far (p := ⟨gb511, _, none⟩) (by first | exact Nat.ne_of_lt (Nat.lt_of_lt_of_le (by have := World.block_lt_of_cell? _ _ hw501_1; first | rwa [add_block] at this | exact this) GW511.out) | (rw [add_block]; exact Nat.ne_of_lt (Nat.lt_of_lt_of_le (by have := World.block_lt_of_cell? _ _ hw501_1; first | rwa [add_block] at this | exact this) GW511.out)) | (show (Addr.add _ _).block ≠ _; rw [add_block]; exact Nat.ne_of_lt (Nat.lt_of_lt_of_le (by have := World.block_lt_of_cell? _ _ hw501_1; first | rwa [add_block] at this | exact this) GW511.out)) | (dsimp only; exact Nat.ne_of_lt (Nat.lt_of_lt_of_le (by have := World.block_lt_of_cell? _ _ hw501_1; first | rwa [add_block] at this | exact this) GW511.out))) _).trans (((cell_far (p := ⟨gb511, _, none⟩) (by first | exact Nat.ne_of_lt (Nat.lt_of_lt_of_le (by have := World.block_lt_of_cell? _ _ hw501_1; first | rwa [add_block] at this | exact this) GW511.out) | (rw [add_block]; exact Nat.ne_of_lt (Nat.lt_of_lt_of_le (by have := World.block_lt_of_cell? _ _ hw501_1; first | rwa [add_block] at this | exact this) GW511.out)) | (show (Addr.add _ _).block ≠ _; rw [add_block]; exact Nat.ne_of_lt (Nat.lt_of_lt_of_le (by have := World.block_lt_of_cell? _ _ hw501_1; first | rwa [add_block] at this | exact this) GW511.out)) | (dsimp only; exact Nat.ne_of_lt (Nat.lt_of_lt_of_le (by have := World.block_lt_of_cell? _ _ hw501_1; first | rwa [add_block] at this | exact this) GW511.out))) _).trans (hHeld.2.2.2))))⟩ (fun hHeld => ?_)
        clear hK K
        refine pure_ (i := 12) (N := some 10) (v := ?_) (a' := ?_) #[true, true, true, true, true, true, true, true, true, true, true, true, true] rfl rfl (any_of HT_.out kk) (fun _ _ _ h => h) (Or.inl ⟨by rfl, ?_⟩) ?_ ?_
        rotate_left
        ·intro w'
         go_simp
         with_reducible rfl
        rotate_left
        ·simp only [Act.put, List.setIfInBounds_toArray, List.set_cons_zero, List.set_cons_succ, i64_w, i32_w]
         rfl
        refine done_ (done_of HT_.out kk) ?_
        (try simp only [errW_none, errW_some])
        try go_wp2
        have n0_ : Aside0 (Kd.R k95 95 ((w53.setCell ⟨gb511, 0, none⟩ (.int .i64 t506)).setCell ⟨gb511, 1, none⟩ (.slice Ao55 t507.length co55)) w.heap.size (fun k_ => some k_ ≠ (v504 : Value).ownBlock ∧ some k_ ≠ (.slice Ao55 t507.length co55 : Value).ownBlock) (.slice Ao47 x500001_2.length co47) x500001_2) := ⟨by (with_reducible repeat (first | apply Kd.R_alloc | apply Kd.R_drewN | apply Kd.R_drew)); exact Kd.R_mono (Kd.R_far (p := ⟨gb511, 1, none⟩) (Kd.R_far (p := ⟨gb511, 0, none⟩) (Kd.R_types HO_500001.out BK511.out (by decide)) (fun _ hk => hk.2) (.int .i64 t506)) (fun _ hk => hk.2) (.slice Ao55 t507.length co55)) (fun _ hk => ⟨hk.1.1, hk.1.2⟩)⟩
        have n1_ : Aside0 (Kd.R k95 95 ((w53.setCell ⟨gb511, 0, none⟩ (.int .i64 t506)).setCell ⟨gb511, 1, none⟩ (.slice Ao55 t507.length co55)) w.heap.size (fun k_ => some k_ ≠ (.slice Ao47 x500001_2.length co47 : Value).ownBlock ∧ some k_ ≠ (.slice Ao55 t507.length co55 : Value).ownBlock) v504 t503) := ⟨by (with_reducible repeat (first | apply Kd.R_alloc | apply Kd.R_drewN | apply Kd.R_drew)); exact Kd.R_mono (Kd.R_far (p := ⟨gb511, 1, none⟩) (Kd.R_far (p := ⟨gb511, 0, none⟩) (Kd.R_types HO505.out BK511.out (by decide)) (fun _ hk => hk.2) (.int .i64 t506)) (fun _ hk => hk.2) (.slice Ao55 t507.length co55)) (fun _ hk => ⟨hk.1.2, hk.1.1⟩)⟩
        have n2_ : Aside0 (Kd.R k95 95 ((w53.setCell ⟨gb511, 0, none⟩ (.int .i64 t506)).setCell ⟨gb511, 1, none⟩ (.slice Ao55 t507.length co55)) w.heap.size (fun k_ => some k_ ≠ (.slice Ao47 x500001_2.length co47 : Value).ownBlock ∧ some k_ ≠ (v504 : Value).ownBlock) (.slice Ao55 t507.length co55) t507) := ⟨by (with_reducible repeat (first | apply Kd.R_alloc | apply Kd.R_drewN | apply Kd.R_drew)); exact Kd.R_mono (Kd.R_far (p := ⟨gb511, 1, none⟩) (Kd.R_far (p := ⟨gb511, 0, none⟩) (Kd.R_types HO509.out BK511.out (by decide)) (fun _ hk => hk.2) (.int .i64 t506)) (fun _ hk => hk.2) (.slice Ao55 t507.length co55)) (fun _ hk => ⟨hk.1.2, hk.1.1⟩)⟩
        have n3_ : Aside0 (((w53.setCell ⟨gb511, 0, none⟩ (.int .i64 t506)).setCell ⟨gb511, 1, none⟩ (.slice Ao55 t507.length co55)).heap[gb493]? = some (.cells #[.int .i64 a0_0, .slice A0_1 l0_1.length c0_1] 78 (0, 0))) := ⟨by (with_reducible repeat (first | refine blk_drewN ?_ _ | refine blk_drew ?_ | refine blk_alloc ?_ _)); refine blk_far ?_ NB493_511.out _; (with_reducible repeat (first | refine blk_drewN ?_ _ | refine blk_drew ?_ | refine blk_alloc ?_ _)); refine blk_far ?_ NB493_511.out _; (with_reducible repeat (first | refine blk_drewN ?_ _ | refine blk_drew ?_ | refine blk_alloc ?_ _)); exact BK493.out⟩
        have n4_ : Aside0 (((w53.setCell ⟨gb511, 0, none⟩ (.int .i64 t506)).setCell ⟨gb511, 1, none⟩ (.slice Ao55 t507.length co55)).heap[gb499]? = some (.cells #[.int .i64 x500000_2, .slice Ao47 x500001_2.length co47] 82 (0, 0))) := ⟨by (with_reducible repeat (first | refine blk_drewN ?_ _ | refine blk_drew ?_ | refine blk_alloc ?_ _)); refine blk_far ?_ NB499_511.out _; (with_reducible repeat (first | refine blk_drewN ?_ _ | refine blk_drew ?_ | refine blk_alloc ?_ _)); refine blk_far ?_ NB499_511.out _; (with_reducible repeat (first | refine blk_drewN ?_ _ | refine blk_drew ?_ | refine blk_alloc ?_ _)); exact BK499.out⟩
        have n5_ : Aside0 (((w53.setCell ⟨gb511, 0, none⟩ (.int .i64 t506)).setCell ⟨gb511, 1, none⟩ (.slice Ao55 t507.length co55)).heap[gb511]? = some (.cells #[.int .i64 t506, .slice Ao55 t507.length co55] 82 (0, 0))) := ⟨by (with_reducible repeat (first | refine blk_drewN ?_ _ | refine blk_drew ?_ | refine blk_alloc ?_ _)); refine blk_put (cs := #[.int .i64 t506, .slice none 0 0]) ?_ 1 _ rfl; (with_reducible repeat (first | refine blk_drewN ?_ _ | refine blk_drew ?_ | refine blk_alloc ?_ _)); refine blk_put (cs := #[.int .i64 0, .slice none 0 0]) ?_ 0 _ rfl; (with_reducible repeat (first | refine blk_drewN ?_ _ | refine blk_drew ?_ | refine blk_alloc ?_ _)); exact BK511.out⟩
        have n6_ : Aside0 (Below w.heap.size w ((w53.setCell ⟨gb511, 0, none⟩ (.int .i64 t506)).setCell ⟨gb511, 1, none⟩ (.slice Ao55 t507.length co55))) := ⟨pw⟩
        (try clear HO_500001)
        (try clear HO505)
        (try clear HO509)
        (try clear BK493)
        (try clear BK499)
        (try clear BK511)
        (try clear HB)
        generalize ((w53.setCell ⟨gb511, 0, none⟩ (.int .i64 t506)).setCell ⟨gb511, 1, none⟩ (.slice Ao55 t507.length co55)) = w57 at n0_ n1_ n2_ n3_ n4_ n5_ n6_ ⊢
        revert n0_ n1_ n2_ n3_ n4_ n5_ n6_
        intro HO_500001 HO505 HO509 BK493 BK499 BK511 HB
        have n0_ := am (Kd.R_drew HO_500001.out)
        have n1_ := am (Kd.R_drew HO505.out)
        have n2_ := am (Kd.R_drew HO509.out)
        have n3_ := am (blk_drew BK493.out)
        have n4_ := am (blk_drew BK499.out)
        have n5_ := am (blk_drew BK511.out)
        have n6_ := am (below_drew1 HB.out)
        clear HO_500001 HO505 HO509 BK493 BK499 BK511 HB
        revert n0_ n1_ n2_ n3_ n4_ n5_ n6_
        intro HO_500001 HO505 HO509 BK493 BK499 BK511 HB
        refine start_ (n := 5) (S := fun w' => w'.cell? ⟨gb511, 0, none⟩ = some (.int .i64 t506) ∧ w'.cell? ⟨gb511, 1, none⟩ = some (.slice Ao55 t507.length co55) ∧ w'.cell? ⟨gb499, 0, none⟩ = some (.int .i64 x500000_2) ∧ w'.cell? ⟨gb499, 1, none⟩ = some (.slice Ao47 x500001_2.length co47)) (ds := []) #[false, false, false, false, false] kk rfl rfl ⟨bc BK511 0, bc BK511 1, bc BK499 0, bc BK499 1⟩ (fun hHeld => ?_)
        generalize w57.drew = w58 at HO_500001 HO505 HO509 BK493 BK499 BK511 HB hHeld ⊢
        refine take_ (i := 0) (N := some 53) (v := ?_) (a' := ?_) #[true, false, false, false, false] rfl rfl kk (fun _ _ _ h => h) (Or.inl ⟨by rfl, ?_⟩) hHeld ?_ ?_
        rotate_left
        ·rintro w' ⟨s0, s1, s2, s3⟩
         go_simp
         with_reducible rfl
        rotate_left
        ·simp only [Act.put, List.setIfInBounds_toArray, List.set_cons_zero, List.set_cons_succ, i64_w, i32_w]
         rfl
        refine take_ (i := 1) (N := some 54) (v := ?_) (a' := ?_) #[true, true, false, false, false] rfl rfl kk (fun _ _ _ h => h) (Or.inl ⟨by rfl, ?_⟩) hHeld ?_ ?_
        rotate_left
        ·rintro w' ⟨s0, s1, s2, s3⟩
         go_simp
         with_reducible rfl
        rotate_left
        ·simp only [Act.put, List.setIfInBounds_toArray, List.set_cons_zero, List.set_cons_succ, i64_w, i32_w]
         rfl
        refine one_ (i := 2) (N := some 55) #[true, true, true, false, false] rfl rfl kk (by decide) (fun K hK => ?_)
        refine goes_ Tryd.func52 kk rfl #[.agg #[.int .i64 x500000_2, .slice Ao47 x500001_2.length co47]] (by rfl) rfl rfl (by (try simp only [List.map_toArray, List.map_cons, List.map_nil]); first | done | rfl | (simp only [List.length_drop, List.length_take]; rfl)) ?_
        with_reducible refine (L2_octBack.calls k2 x500000_2 _ _ x500001_2 t513 t514 _ ?side1 ?side2 A24.out).mono ?_
        (case side1 => repeat (first | exact (Kd.R_reads' HO_500001.out).2.2 | (with_reducible refine Kd.C_alloc ?_ _) | (with_reducible refine Kd.C_drewN ?_ _) | (with_reducible refine Kd.C_drew ?_)))
        (case side2 => exact (Kd.R_reads' HO_500001.out).2.1)
        rintro e w59 ⟨v515, rfl, ho0, hb⟩
        refine ⟨_, rfl, ?_⟩
        have n0_ := am (Kd.R_below (by (with_reducible repeat (first | apply Kd.R_alloc | apply Kd.R_drewN | apply Kd.R_drew)); exact HO_500001.out) hb)
        have n1_ := am (Kd.R_below (by (with_reducible repeat (first | apply Kd.R_alloc | apply Kd.R_drewN | apply Kd.R_drew)); exact HO505.out) hb)
        have n2_ := am (Kd.R_below (by (with_reducible repeat (first | apply Kd.R_alloc | apply Kd.R_drewN | apply Kd.R_drew)); exact HO509.out) hb)
        have n3_ := am (Kd.R_lower ho0 (below_size pw))
        have n4_ := bb BK493 hb
        have n5_ := bb BK499 hb
        have n6_ := bb BK511 hb
        have n7_ := am (below_step pw hb)
        clear HO_500001 HO505 HO509 BK493 BK499 BK511 HB
        revert n0_ n1_ n2_ n3_ n4_ n5_ n6_ n7_
        intro HO_500001 HO505 HO509 HO516 BK493 BK499 BK511 HB
        (try clear hb)
        (try clear hb2)
        (try clear hk)
        (try clear hi)
        (try clear ho0)
        obtain ⟨Ao60, co60, eo60⟩ := Kd.R_slice HO516.out
        (first | subst eo60 | (injection eo60 with f1_ f2_ f3_; have f4_ := f1_.symm; have f5_ := f3_.symm; clear f1_ f2_ f3_; subst f4_; subst f5_))
        refine hK.out _ _ ⟨bc BK511 0, bc BK511 1, bc BK499 0, bc BK499 1⟩ (fun hHeld => ?_)
        clear hK K
        refine norm_ (a' := ?_) ?_ ?_
        rotate_left
        ·show Act.put _ (some 55) _ = _
         simp only [Act.put, List.setIfInBounds_toArray, List.set_cons_zero, List.set_cons_succ, i64_w, i32_w]
         rfl
        refine one_ (i := 3) (N := some 56) #[true, true, true, true, false] rfl rfl kk (by decide) (fun K hK => ?_)
        refine goes_ Tryd.func51 kk rfl #[.agg #[.int .i64 t506, .slice Ao55 t507.length co55], .agg #[.int .i64 t513, .slice Ao60 t514.length co60]] (by rfl) rfl rfl (by (try simp only [List.map_toArray, List.map_cons, List.map_nil]); first | done | rfl | (simp only [List.length_drop, List.length_take]; rfl)) ?_
        with_reducible refine (L2_isOct.calls k2 t506 _ _ t507 t513 _ _ t514 false _ ?side1 ?side2 ?side3 ?side4 A25.out).mono ?_
        (case side1 => repeat (first | exact (Kd.R_reads' HO509.out).2.2 | (with_reducible refine Kd.C_alloc ?_ _) | (with_reducible refine Kd.C_drewN ?_ _) | (with_reducible refine Kd.C_drew ?_)))
        (case side2 => exact (Kd.R_reads' HO509.out).2.1)
        (case side3 => repeat (first | exact (Kd.R_reads' HO516.out).2.2 | (with_reducible refine Kd.C_alloc ?_ _) | (with_reducible refine Kd.C_drewN ?_ _) | (with_reducible refine Kd.C_drew ?_)))
        (case side4 => exact (Kd.R_reads' HO516.out).2.1)
        rintro e w61 ⟨rfl, hb⟩
        refine ⟨_, rfl, ?_⟩
        have n0_ := am (Kd.R_below (by (with_reducible repeat (first | apply Kd.R_alloc | apply Kd.R_drewN | apply Kd.R_drew)); exact HO_500001.out) hb)
        have n1_ := am (Kd.R_below (by (with_reducible repeat (first | apply Kd.R_alloc | apply Kd.R_drewN | apply Kd.R_drew)); exact HO505.out) hb)
        have n2_ := am (Kd.R_below (by (with_reducible repeat (first | apply Kd.R_alloc | apply Kd.R_drewN | apply Kd.R_drew)); exact HO509.out) hb)
        have n3_ := am (Kd.R_below (by (with_reducible repeat (first | apply Kd.R_alloc | apply Kd.R_drewN | apply Kd.R_drew)); exact HO516.out) hb)
        have n4_ := bb BK493 hb
        have n5_ := bb BK499 hb
        have n6_ := bb BK511 hb
        have n7_ := am (below_step pw hb)
        clear HO_500001 HO505 HO509 HO516 BK493 BK499 BK511 HB
        revert n0_ n1_ n2_ n3_ n4_ n5_ n6_ n7_
        intro HO_500001 HO505 HO509 HO516 BK493 BK499 BK511 HB
        (try clear hb)
        (try clear hb2)
        (try clear hk)
        (try clear hi)
        refine hK.out _ _ ⟨bc BK511 0, bc BK511 1, bc BK499 0, bc BK499 1⟩ (fun hHeld => ?_)
        clear hK K
        refine norm_ (a' := ?_) ?_ ?_
        rotate_left
        ·show Act.put _ (some 56) _ = _
         simp only [Act.put, List.setIfInBounds_toArray, List.set_cons_zero, List.set_cons_succ, i64_w, i32_w]
         rfl
        refine pure_ (i := 4) (N := some 57) (v := ?_) (a' := ?_) #[true, true, true, true, true] rfl rfl kk (fun _ _ _ h => h) (Or.inl ⟨by rfl, ?_⟩) ?_ ?_
        rotate_left
        ·intro w'
         go_simp
         with_reducible rfl
        rotate_left
        ·simp only [Act.put, List.setIfInBounds_toArray, List.set_cons_zero, List.set_cons_succ, i64_w, i32_w]
         rfl
        refine done_ kk ?_
        have hnb62 := NB511_493.out
        have hnc62 := NB493_511.out
        have hnb63 := NB511_499.out
        have hnc63 := NB499_511.out
        have hcz64_0 : w61.cell? ⟨gb511, 0, none⟩ = some (.int .i64 t506) := bc BK511 0
        have hcz64_1 : w61.cell? ⟨gb511, 1, none⟩ = some (.slice Ao55 t507.length co55) := bc BK511 1
        have hfz64_0 := blk_frozen BK511.out 0
        have hfz64_1 := blk_frozen BK511.out 1
        have hnb65 := NB499_493.out
        have hnc65 := NB493_499.out
        have hcz66_0 : w61.cell? ⟨gb499, 0, none⟩ = some (.int .i64 x500000_2) := bc BK499 0
        have hcz66_1 : w61.cell? ⟨gb499, 1, none⟩ = some (.slice Ao47 x500001_2.length co47) := bc BK499 1
        have hfz66_0 := blk_frozen BK499.out 0
        have hfz66_1 := blk_frozen BK499.out 1
        try go_wp2
        go_roundg k2
        case measure => have := HJ3.out; have := HK2.out; omega
        case rel => exact ⟨(wrap64 (x7_2 + 1)), (wrap64 (x8_2 + 1)), (t506), (t507), (.slice Ao55 t507.length co55), pr, pr, H', ⟨by have := HJ3.out; have := HK2.out; omega⟩, ⟨by (with_reducible repeat (first | apply Kd.R_alloc | apply Kd.R_drewN | apply Kd.R_drew)); exact Kd.R_mono (Kd.R_far (p := ⟨gb499, 1, none⟩) (Kd.R_far (p := ⟨gb499, 0, none⟩) (Kd.R_types HO509.out BK499.out (by decide)) (fun _ hk => hk.2) (.int .i64 t506)) (fun _ hk => hk.2) (.slice Ao55 t507.length co55)) (fun _ hk => trivial)⟩, ⟨by (with_reducible repeat (first | refine blk_drewN ?_ _ | refine blk_drew ?_ | refine blk_alloc ?_ _)); refine blk_far ?_ NB493_499.out _; (with_reducible repeat (first | refine blk_drewN ?_ _ | refine blk_drew ?_ | refine blk_alloc ?_ _)); refine blk_far ?_ NB493_499.out _; (with_reducible repeat (first | refine blk_drewN ?_ _ | refine blk_drew ?_ | refine blk_alloc ?_ _)); exact BK493.out⟩, ⟨by (with_reducible repeat (first | refine blk_drewN ?_ _ | refine blk_drew ?_ | refine blk_alloc ?_ _)); refine blk_put (cs := #[.int .i64 t506, .slice Ao47 x500001_2.length co47]) ?_ 1 _ rfl; (with_reducible repeat (first | refine blk_drewN ?_ _ | refine blk_drew ?_ | refine blk_alloc ?_ _)); refine blk_put (cs := #[.int .i64 x500000_2, .slice Ao47 x500001_2.length co47]) ?_ 0 _ rfl; (with_reducible repeat (first | refine blk_drewN ?_ _ | refine blk_drew ?_ | refine blk_alloc ?_ _)); exact BK499.out⟩, ⟨pw⟩⟩
      have H1 : (some true) = some r := by rw [if_neg (show ¬ (some q512).isNone = true by simp)] at H; exact H
      clear H
      have H := H1
      clear H1
      try simp only [errW_none, errW_some]
      as_aux_lemma =>
       obtain rfl := Option.some.inj H
       have p500 : 0 ≤ (x8_2 : Int) := of_decide_eq_true (by first | (with_reducible assumption) | assumption)
       have q500 : x8_2 < (l1.length : Int) := of_decide_eq_true (by first | (with_reducible assumption) | assumption)
       obtain ⟨ad500, A500_1, c500_1, e500, hx500_0, hx500_1, hl500_1, hi500_1⟩ := at_T78 HR1.out x8_2 p500 q500
       cases e500
       replace hx500_0 := (HB.out.cell (World.block_lt_of_cell? w _ hx500_0)).trans hx500_0
       replace hx500_1 := (HB.out.cell (World.block_lt_of_cell? w _ hx500_1)).trans hx500_1
       have HR500_1 := am hi500_1
       have HC500_1 := am hl500_1
       clear hi500_1 hl500_1
       replace p500 := eq_true p500
       replace q500 := eq_true q500
       obtain ⟨Ao67, co67, eo67⟩ := Kd.R_slice HO_500001.out
       subst eo67
       try go_wp2
       have n0_ := am (Kd.R_drew HO_500001.out)
       have n1_ := am (blk_drew BK493.out)
       have n2_ := am (blk_drew BK499.out)
       have n3_ := am (below_drew1 HB.out)
       clear HO_500001 BK493 BK499 HB
       revert n0_ n1_ n2_ n3_
       intro HO_500001 BK493 BK499 HB
       have p501 : 0 ≤ (x8_2 : Int) := of_decide_eq_true (by first | (with_reducible assumption) | assumption)
       have q501 : x8_2 < (l1.length : Int) := of_decide_eq_true (by first | (with_reducible assumption) | assumption)
       obtain ⟨ad501, A501_1, c501_1, e501, hx501_0, hx501_1, hl501_1, hi501_1⟩ := at_T78 HR1.out x8_2 p501 q501
       have hw501_1 := hx501_1
       have hw501_0 := hx501_0
       obtain rfl : ad500 = ad501 := (by injection e501)
       replace hx501_0 := (HB.out.cell (World.block_lt_of_cell? w _ hx501_0)).trans hx501_0
       replace hx501_1 := (HB.out.cell (World.block_lt_of_cell? w _ hx501_1)).trans hx501_1
       have HR501_1 := am hi501_1
       have HC501_1 := am hl501_1
       clear hi501_1 hl501_1
       replace p501 := eq_true p501
       replace q501 := eq_true q501
       refine start_ (n := 13) (S := fun w' => w'.cell? ⟨gb499, 0, none⟩ = some (.int .i64 x500000_2) ∧ w'.cell? ⟨gb499, 1, none⟩ = some (.slice Ao67 x500001_2.length co67) ∧ w'.cell? (ad500.add ((x8_2).toNat * 2)) = some (.int .i64 ((rd_T78 l1 x8_2).f0)) ∧ w'.cell? ⟨(ad500.add ((x8_2).toNat * 2)).block, (ad500.add ((x8_2).toNat * 2)).off + 1, none⟩ = some (.slice A501_1 ((rd_T78 l1 x8_2).f1).length c501_1)) (ds := []) #[false, false, false, false, false, false, false, false, false, false, false, false, false] kk rfl rfl ⟨bc BK499 0, bc BK499 1, ((HB.out.cell (World.block_lt_of_cell? w _ hw501_0)).trans hw501_0), ((HB.out.cell (World.block_lt_of_cell? w _ hw501_1)).trans hw501_1)⟩ (fun hHeld => ?_); refine with_tabW L2_OctStays.tab11 L2_OctStays.bits11 (fun HT_ HW_ => ?_)
       generalize wr.drew = w68 at HO_500001 BK493 BK499 HB HR501_1 hx501_0 hx501_1 hHeld ⊢
       refine pure_ (i := 1) (N := some 43) (v := ?_) (a' := ?_) #[false, true, false, false, false, false, false, false, false, false, false, false, false] rfl rfl (any_of HT_.out kk) (fun _ _ _ h => h) (Or.inl ⟨by rfl, ?_⟩) ?_ ?_
       rotate_left
       ·intro w'
        go_simp
        with_reducible rfl
       rotate_left
       ·simp only [Act.put, List.setIfInBounds_toArray, List.set_cons_zero, List.set_cons_succ, i64_w, i32_w]
        rfl
       refine pure_ (i := 2) (N := some 44) (v := ?_) (a' := ?_) #[false, true, true, false, false, false, false, false, false, false, false, false, false] rfl rfl (any_of HT_.out kk) (fun _ _ _ h => h) (Or.inl ⟨by rfl, ?_⟩) ?_ ?_
       rotate_left
       ·intro w'
        go_simp
        with_reducible rfl
       rotate_left
       ·simp only [Act.put, List.setIfInBounds_toArray, List.set_cons_zero, List.set_cons_succ, i64_w, i32_w]
        rfl
       refine pure_ (i := 3) (N := some 45) (v := ?_) (a' := ?_) #[false, true, true, true, false, false, false, false, false, false, false, false, false] rfl rfl (any_of HT_.out kk) (fun _ _ _ h => h) (Or.inl ⟨by rfl, ?_⟩) ?_ ?_
       rotate_left
       ·intro w'
        go_simp
        with_reducible rfl
       rotate_left
       ·simp only [Act.put, List.setIfInBounds_toArray, List.set_cons_zero, List.set_cons_succ, i64_w, i32_w]
        rfl
       refine take_ (i := 0) (N := some 42) (v := ?_) (a' := ?_) #[true, true, true, true, false, false, false, false, false, false, false, false, false] rfl rfl (take_ofW HT_.out HW_.out kk) (fun _ _ _ h => h) (Or.inl ⟨by rfl, ?_⟩) hHeld ?_ ?_
       rotate_left
       ·rintro w' ⟨s0, s1, s2, s3⟩
        go_simp
        with_reducible rfl
       rotate_left
       ·simp only [Act.put, List.setIfInBounds_toArray, List.set_cons_zero, List.set_cons_succ, i64_w, i32_w]
        rfl
       refine take_ (i := 4) (N := some 46) (v := ?_) (a' := ?_) #[true, true, true, true, true, false, false, false, false, false, false, false, false] rfl rfl (take_ofW HT_.out HW_.out kk) (fun _ _ _ h => h) (Or.inl ⟨by rfl, ?_⟩) hHeld ?_ ?_
       rotate_left
       ·rintro w' ⟨s0, s1, s2, s3⟩
        go_simp
        with_reducible rfl
       rotate_left
       ·simp only [Act.put, List.setIfInBounds_toArray, List.set_cons_zero, List.set_cons_succ, i64_w, i32_w]
        rfl
       refine join_ (σ := Value × Value × Nat) 2 #[true, true, true, true, true, true, true, true, true, true, true, false, false] (fun s_ => [(47, .agg #[.int .i64 t502, s_.1]), (48, .tuple #[.agg #[.int .i64 t506, s_.2.1], errW (some q512)]), (9, .pointer (some ⟨s_.2.2, 0, none⟩)), (41, .tuple #[.agg #[.int .i64 t506, s_.2.1], errW (some q512)]), (49, .agg #[.int .i64 t506, s_.2.1]), (50, errW (some q512))]) (fun s_ w' => (w'.cell? ⟨gb499, 0, none⟩ = some (.int .i64 x500000_2) ∧ w'.cell? ⟨gb499, 1, none⟩ = some (.slice Ao67 x500001_2.length co67) ∧ w'.cell? (ad500.add ((x8_2).toNat * 2)) = some (.int .i64 ((rd_T78 l1 x8_2).f0)) ∧ w'.cell? ⟨(ad500.add ((x8_2).toNat * 2)).block, (ad500.add ((x8_2).toNat * 2)).off + 1, none⟩ = some (.slice A501_1 ((rd_T78 l1 x8_2).f1).length c501_1)) ∧ (Kd.R k95 95 w' w.heap.size (fun k_ => some k_ ≠ (s_.2.1 : Value).ownBlock ∧ some k_ ≠ (.slice Ao67 x500001_2.length co67 : Value).ownBlock) s_.1 t503) ∧ (Kd.R k95 95 w' w.heap.size (fun k_ => some k_ ≠ (s_.1 : Value).ownBlock ∧ some k_ ≠ (.slice Ao67 x500001_2.length co67 : Value).ownBlock) s_.2.1 t507) ∧ (Kd.R k95 95 w' w.heap.size (fun k_ => some k_ ≠ (s_.1 : Value).ownBlock ∧ some k_ ≠ (s_.2.1 : Value).ownBlock) (.slice Ao67 x500001_2.length co67) x500001_2) ∧ (w'.heap[gb493]? = some (.cells #[.int .i64 a0_0, .slice A0_1 l0_1.length c0_1] 78 (0, 0))) ∧ (w'.heap[gb499]? = some (.cells #[.int .i64 x500000_2, .slice Ao67 x500001_2.length co67] 82 (0, 0))) ∧ (w'.heap[s_.2.2]? = some (.cells #[.int .i64 0, .slice none 0 0] 82 (0, 0))) ∧ (w.heap.size ≤ s_.2.2) ∧ (w.heap.size ≤ s_.2.2) ∧ (gb493 ≠ s_.2.2) ∧ (s_.2.2 ≠ gb493) ∧ (gb499 ≠ s_.2.2) ∧ (s_.2.2 ≠ gb499) ∧ (Below w.heap.size w w')) ?_ ?_
       rotate_left
       ·intro hCont
        refine two_ (i := 5) (j := 10) (Ni := some 47) (Nj := some 9) #[true, true, true, true, true, true, false, false, false, false, false, false, false] #[true, true, true, true, true, false, false, false, false, false, true, false, false] rfl rfl rfl rfl (two_of HT_.out kk) (by decide) (by decide) (fun K hK => ?_) (fun K hK => ?_)
        ·skip
         refine goes_ Tryd.func49 kk rfl #[.agg #[.int .i64 ((rd_T78 l1 x8_2).f0), .slice A501_1 ((rd_T78 l1 x8_2).f1).length c501_1]] (by rfl) rfl rfl (by (try simp only [List.map_toArray, List.map_cons, List.map_nil]); first | done | rfl | (simp only [List.length_drop, List.length_take]; rfl)) ?_
         with_reducible refine (L2_octOf.calls k2 ((rd_T78 l1 x8_2).f0) _ _ ((rd_T78 l1 x8_2).f1) t502 t503 _ ?side1 ?side2 A22.out).mono ?_
         (case side1 => repeat (first | exact (Kd.C_below HR501_1.out HB.out) | (with_reducible refine Kd.C_alloc ?_ _) | (with_reducible refine Kd.C_drewN ?_ _) | (with_reducible refine Kd.C_drew ?_)))
         (case side2 => exact HC501_1.out)
         rintro e w69 ⟨v504, rfl, ho0, hb⟩
         refine ⟨_, rfl, ?_⟩
         have n0_ := am (Kd.R_elder' (by (with_reducible repeat (first | apply Kd.R_alloc | apply Kd.R_drewN | apply Kd.R_drew)); exact HO_500001.out) (Kd.R_base ho0) hb)
         have n1_ := am (Kd.R_lower (Kd.R_new' ho0 (Kd.R_lt (by (with_reducible repeat (first | apply Kd.R_alloc | apply Kd.R_drewN | apply Kd.R_drew)); exact HO_500001.out))) (below_size pw))
         have n2_ := bb BK493 hb
         have n3_ := bb BK499 hb
         have n4_ := am (below_step pw hb)
         clear HO_500001 BK493 BK499 HB
         revert n0_ n1_ n2_ n3_ n4_
         intro HO_500001 HO505 BK493 BK499 HB
         (try clear hb)
         (try clear hb2)
         (try clear hk)
         (try clear hi)
         (try clear ho0)
         obtain ⟨Ao70, co70, eo70⟩ := Kd.R_slice HO505.out
         (first | subst eo70 | (injection eo70 with f1_ f2_ f3_; have f4_ := f1_.symm; have f5_ := f3_.symm; clear f1_ f2_ f3_; subst f4_; subst f5_))
         refine hK.out _ _ ⟨bc BK499 0, bc BK499 1, ((HB.out.cell (World.block_lt_of_cell? w _ hw501_0)).trans hw501_0), ((HB.out.cell (World.block_lt_of_cell? w _ hw501_1)).trans hw501_1)⟩ (fun hHeld => ?_)
         clear hK K
         refine norm_ (a' := ?_) ?_ ?_
         rotate_left
         ·show Act.put _ (some 47) _ = _
          simp only [Act.put, List.setIfInBounds_toArray, List.set_cons_zero, List.set_cons_succ, i64_w, i32_w]
          rfl
         refine two_ (i := 6) (j := 10) (Ni := some 48) (Nj := some 9) #[true, true, true, true, true, true, true, false, false, false, false, false, false] #[true, true, true, true, true, true, false, false, false, false, true, false, false] rfl rfl rfl rfl (two_of HT_.out kk) (by decide) (by decide) (fun K hK => ?_) (fun K hK => ?_)
         ·skip
          refine goes_ Tryd.func50 kk rfl #[.agg #[.int .i64 x500000_2, .slice Ao67 x500001_2.length co67], .agg #[.int .i64 t502, .slice Ao70 t503.length co70]] (by rfl) rfl rfl (by (try simp only [List.map_toArray, List.map_cons, List.map_nil]); first | done | rfl | (simp only [List.length_drop, List.length_take]; rfl)) ?_
          with_reducible refine (octagon_Widen.calls x500000_2 _ _ x500001_2 t502 _ _ t503 t506 t507 (some q512) _ ?side1 ?side2 ?side3 ?side4 A23.out (am (ErrAt.below hE2.out pw)).out (am (ErrAt.below hE3.out pw)).out (am (ErrAt.below hE7.out pw)).out).mono ?_
          (case side1 => repeat (first | exact (Kd.R_reads' HO_500001.out).2.2 | (with_reducible refine Kd.C_alloc ?_ _) | (with_reducible refine Kd.C_drewN ?_ _) | (with_reducible refine Kd.C_drew ?_)))
          (case side2 => exact (Kd.R_reads' HO_500001.out).2.1)
          (case side3 => repeat (first | exact (Kd.R_reads' HO505.out).2.2 | (with_reducible refine Kd.C_alloc ?_ _) | (with_reducible refine Kd.C_drewN ?_ _) | (with_reducible refine Kd.C_drew ?_)))
          (case side4 => exact (Kd.R_reads' HO505.out).2.1)
          rintro e w71 ⟨v508, rfl, ho0, hb⟩
          refine ⟨_, rfl, ?_⟩
          have n0_ := am (Kd.R_elder' (by (with_reducible repeat (first | apply Kd.R_alloc | apply Kd.R_drewN | apply Kd.R_drew)); exact HO_500001.out) (Kd.R_base ho0) hb)
          have n1_ := am (Kd.R_elder' (by (with_reducible repeat (first | apply Kd.R_alloc | apply Kd.R_drewN | apply Kd.R_drew)); exact HO505.out) (Kd.R_base ho0) hb)
          have n2_ := am (Kd.R_lower (Kd.R_new' (Kd.R_new' ho0 (Kd.R_lt (by (with_reducible repeat (first | apply Kd.R_alloc | apply Kd.R_drewN | apply Kd.R_drew)); exact HO_500001.out))) (Kd.R_lt (by (with_reducible repeat (first | apply Kd.R_alloc | apply Kd.R_drewN | apply Kd.R_drew)); exact HO505.out))) (below_size pw))
          have n3_ := bb BK493 hb
          have n4_ := bb BK499 hb
          have n5_ := am (below_step pw hb)
          clear HO_500001 HO505 BK493 BK499 HB
          revert n0_ n1_ n2_ n3_ n4_ n5_
          intro HO_500001 HO505 HO509 BK493 BK499 HB
          (try clear hb)
          (try clear hb2)
          (try clear hk)
          (try clear hi)
          (try clear ho0)
          (try simp only [errW_none, errW_some])
          refine hK.out _ _ ⟨bc BK499 0, bc BK499 1, ((HB.out.cell (World.block_lt_of_cell? w _ hw501_0)).trans hw501_0), ((HB.out.cell (World.block_lt_of_cell? w _ hw501_1)).trans hw501_1)⟩ (fun hHeld => ?_)
          clear hK K
          refine norm_ (a' := ?_) ?_ ?_
          rotate_left
          ·show Act.put _ (some 48) _ = _
           simp only [Act.put, List.setIfInBounds_toArray, List.set_cons_zero, List.set_cons_succ, i64_w, i32_w]
           rfl
          refine pure_ (i := 7) (N := some 41) (v := ?_) (a' := ?_) #[true, true, true, true, true, true, true, true, false, false, false, false, false] rfl rfl (any_of HT_.out kk) (fun _ _ _ h => h) (Or.inl ⟨by rfl, ?_⟩) ?_ ?_
          rotate_left
          ·intro w'
           go_simp
           with_reducible rfl
          rotate_left
          ·simp only [Act.put, List.setIfInBounds_toArray, List.set_cons_zero, List.set_cons_succ, i64_w, i32_w]
           rfl
          refine pure_ (i := 8) (N := some 49) (v := ?_) (a' := ?_) #[true, true, true, true, true, true, true, true, true, false, false, false, false] rfl rfl (any_of HT_.out kk) (fun _ _ _ h => h) (Or.inl ⟨by rfl, ?_⟩) ?_ ?_
          rotate_left
          ·intro w'
           go_simp
           with_reducible rfl
          rotate_left
          ·simp only [Act.put, List.setIfInBounds_toArray, List.set_cons_zero, List.set_cons_succ, i64_w, i32_w]
           rfl
          refine pure_ (i := 9) (N := some 50) (v := ?_) (a' := ?_) #[true, true, true, true, true, true, true, true, true, true, false, false, false] rfl rfl (any_of HT_.out kk) (fun _ _ _ h => h) (Or.inl ⟨by rfl, ?_⟩) ?_ ?_
          rotate_left
          ·intro w'
           go_simp
           with_reducible rfl
          rotate_left
          ·simp only [Act.put, List.setIfInBounds_toArray, List.set_cons_zero, List.set_cons_succ, i64_w, i32_w]
           rfl
          refine one_ (i := 10) (N := some 9) #[true, true, true, true, true, true, true, true, true, true, true, false, false] rfl rfl (one_of HT_.out kk) (by decide) (fun K hK => ?_)
          refine box_step ?hg (N := 9) ?hd (cs := #[.int .i64 0, .slice none 0 0]) (t := 82) ?hr ?_; (case hd => rfl); (case hg => rfl); (case hr => first | (go_simp; done) | (go_simp; rfl))
          intro gb511 hg w72 hbox hb
          have n0_ := am (Kd.R_below (by (with_reducible repeat (first | apply Kd.R_alloc | apply Kd.R_drewN | apply Kd.R_drew)); exact HO_500001.out) hb)
          have n1_ := am (Kd.R_below (by (with_reducible repeat (first | apply Kd.R_alloc | apply Kd.R_drewN | apply Kd.R_drew)); exact HO505.out) hb)
          have n2_ := am (Kd.R_below (by (with_reducible repeat (first | apply Kd.R_alloc | apply Kd.R_drewN | apply Kd.R_drew)); exact HO509.out) hb)
          have n3_ := bb BK493 hb
          have n4_ := bb BK499 hb
          have n5_ := am (below_step pw hb)
          have n6_ := am (hbox)
          have n7_ := am ((by rw [hg]; exact (below_size pw) : w.heap.size ≤ gb511))
          have n8_ := am ((by rw [hg]; exact (below_size pw) : w.heap.size ≤ gb511))
          have n9_ := am ((by rw [hg]; exact Nat.ne_of_lt (blk_lt pk) : gb493 ≠ gb511))
          have n10_ := am ((by rw [hg]; exact Nat.ne_of_gt (blk_lt pk) : gb511 ≠ gb493))
          have n11_ := am ((by rw [hg]; exact Nat.ne_of_lt (blk_lt pk) : gb499 ≠ gb511))
          have n12_ := am ((by rw [hg]; exact Nat.ne_of_gt (blk_lt pk) : gb511 ≠ gb499))
          clear HO_500001 HO505 HO509 BK493 BK499 HB
          revert n0_ n1_ n2_ n3_ n4_ n5_ n6_ n7_ n8_ n9_ n10_ n11_ n12_
          intro HO_500001 HO505 HO509 BK493 BK499 HB BK511 GW511 GE511 NB493_511 NB511_493 NB499_511 NB511_499
          clear hb hbox hg
          refine hK.out _ _ ⟨bc BK499 0, bc BK499 1, ((HB.out.cell (World.block_lt_of_cell? w _ hw501_0)).trans hw501_0), ((HB.out.cell (World.block_lt_of_cell? w _ hw501_1)).trans hw501_1)⟩ (fun hHeld => ?_)
          clear hK K
          refine norm_ (a' := ?_) ?_ ?_
          rotate_left
          ·show Act.put _ (some 9) _ = _
           simp only [Act.put, List.setIfInBounds_toArray, List.set_cons_zero, List.set_cons_succ, i64_w, i32_w]
           rfl
          exact norm_ (by simp only [putAll, Act.put, List.setIfInBounds_toArray, List.set_cons_zero, List.set_cons_succ, errW_none, errW_some]) (hCont (.slice Ao70 t503.length co70, v508, gb511) _ ⟨hHeld, (by (with_reducible repeat (first | apply Kd.R_alloc | apply Kd.R_drewN | apply Kd.R_drew)); exact Kd.R_mono HO505.out (fun _ hk => ⟨hk.2, hk.1.2⟩)), (by (with_reducible repeat (first | apply Kd.R_alloc | apply Kd.R_drewN | apply Kd.R_drew)); exact Kd.R_mono HO509.out (fun _ hk => ⟨hk.2, hk.1.2⟩)), (by (with_reducible repeat (first | apply Kd.R_alloc | apply Kd.R_drewN | apply Kd.R_drew)); exact Kd.R_mono HO_500001.out (fun _ hk => ⟨hk.1.2, hk.2⟩)), pk, pk, pk, GW511.out, GE511.out, NB493_511.out, NB511_493.out, NB499_511.out, NB511_499.out, pw⟩)
         skip
         refine box_step ?hg (N := 9) ?hd (cs := #[.int .i64 0, .slice none 0 0]) (t := 82) ?hr ?_; (case hd => rfl); (case hg => rfl); (case hr => first | (go_simp; done) | (go_simp; rfl))
         intro gb511 hg w70 hbox hb
         have n0_ := am (Kd.R_below (by (with_reducible repeat (first | apply Kd.R_alloc | apply Kd.R_drewN | apply Kd.R_drew)); exact HO_500001.out) hb)
         have n1_ := am (Kd.R_below (by (with_reducible repeat (first | apply Kd.R_alloc | apply Kd.R_drewN | apply Kd.R_drew)); exact HO505.out) hb)
         have n2_ := bb BK493 hb
         have n3_ := bb BK499 hb
         have n4_ := am (below_step pw hb)
         have n5_ := am (hbox)
         have n6_ := am ((by rw [hg]; exact (below_size pw) : w.heap.size ≤ gb511))
         have n7_ := am ((by rw [hg]; exact (below_size pw) : w.heap.size ≤ gb511))
         have n8_ := am ((by rw [hg]; exact Nat.ne_of_lt (blk_lt pk) : gb493 ≠ gb511))
         have n9_ := am ((by rw [hg]; exact Nat.ne_of_gt (blk_lt pk) : gb511 ≠ gb493))
         have n10_ := am ((by rw [hg]; exact Nat.ne_of_lt (blk_lt pk) : gb499 ≠ gb511))
         have n11_ := am ((by rw [hg]; exact Nat.ne_of_gt (blk_lt pk) : gb511 ≠ gb499))
         clear HO_500001 HO505 BK493 BK499 HB
         revert n0_ n1_ n2_ n3_ n4_ n5_ n6_ n7_ n8_ n9_ n10_ n11_
         intro HO_500001 HO505 BK493 BK499 HB BK511 GW511 GE511 NB493_511 NB511_493 NB499_511 NB511_499
         clear hb hbox hg
         obtain ⟨Ao71, co71, eo71⟩ := Kd.R_slice HO505.out
         (first | subst eo71 | (injection eo71 with f1_ f2_ f3_; have f4_ := f1_.symm; have f5_ := f3_.symm; clear f1_ f2_ f3_; subst f4_; subst f5_))
         refine hK.out _ _ ⟨bc BK499 0, bc BK499 1, ((HB.out.cell (World.block_lt_of_cell? w _ hw501_0)).trans hw501_0), ((HB.out.cell (World.block_lt_of_cell? w _ hw501_1)).trans hw501_1)⟩ (fun hHeld => ?_)
         clear hK K
         refine norm_ (a' := ?_) ?_ ?_
         rotate_left
         ·show Act.put _ (some 9) _ = _
          simp only [Act.put, List.setIfInBounds_toArray, List.set_cons_zero, List.set_cons_succ, i64_w, i32_w]
          rfl
         refine one_ (i := 6) (N := some 48) #[true, true, true, true, true, true, true, false, false, false, true, false, false] rfl rfl (one_of HT_.out kk) (by decide) (fun K hK => ?_)
         refine goes_ Tryd.func50 kk rfl #[.agg #[.int .i64 x500000_2, .slice Ao67 x500001_2.length co67], .agg #[.int .i64 t502, .slice Ao71 t503.length co71]] (by rfl) rfl rfl (by (try simp only [List.map_toArray, List.map_cons, List.map_nil]); first | done | rfl | (simp only [List.length_drop, List.length_take]; rfl)) ?_
         with_reducible refine (octagon_Widen.calls x500000_2 _ _ x500001_2 t502 _ _ t503 t506 t507 (some q512) _ ?side1 ?side2 ?side3 ?side4 A23.out (am (ErrAt.below hE2.out pw)).out (am (ErrAt.below hE3.out pw)).out (am (ErrAt.below hE7.out pw)).out).mono ?_
         (case side1 => repeat (first | exact (Kd.R_reads' HO_500001.out).2.2 | (with_reducible refine Kd.C_alloc ?_ _) | (with_reducible refine Kd.C_drewN ?_ _) | (with_reducible refine Kd.C_drew ?_)))
         (case side2 => exact (Kd.R_reads' HO_500001.out).2.1)
         (case side3 => repeat (first | exact (Kd.R_reads' HO505.out).2.2 | (with_reducible refine Kd.C_alloc ?_ _) | (with_reducible refine Kd.C_drewN ?_ _) | (with_reducible refine Kd.C_drew ?_)))
         (case side4 => exact (Kd.R_reads' HO505.out).2.1)
         rintro e w72 ⟨v508, rfl, ho0, hb⟩
         refine ⟨_, rfl, ?_⟩
         have n0_ := am (Kd.R_elder' (by (with_reducible repeat (first | apply Kd.R_alloc | apply Kd.R_drewN | apply Kd.R_drew)); exact HO_500001.out) (Kd.R_base ho0) hb)
         have n1_ := am (Kd.R_elder' (by (with_reducible repeat (first | apply Kd.R_alloc | apply Kd.R_drewN | apply Kd.R_drew)); exact HO505.out) (Kd.R_base ho0) hb)
         have n2_ := am (Kd.R_lower (Kd.R_new' (Kd.R_new' ho0 (Kd.R_lt (by (with_reducible repeat (first | apply Kd.R_alloc | apply Kd.R_drewN | apply Kd.R_drew)); exact HO_500001.out))) (Kd.R_lt (by (with_reducible repeat (first | apply Kd.R_alloc | apply Kd.R_drewN | apply Kd.R_drew)); exact HO505.out))) (below_size pw))
         have n3_ := bb BK493 hb
         have n4_ := bb BK499 hb
         have n5_ := bb BK511 hb
         have n6_ := am (below_step pw hb)
         clear HO_500001 HO505 BK493 BK499 BK511 HB
         revert n0_ n1_ n2_ n3_ n4_ n5_ n6_
         intro HO_500001 HO505 HO509 BK493 BK499 BK511 HB
         (try clear hb)
         (try clear hb2)
         (try clear hk)
         (try clear hi)
         (try clear ho0)
         (try simp only [errW_none, errW_some])
         refine hK.out _ _ ⟨bc BK499 0, bc BK499 1, ((HB.out.cell (World.block_lt_of_cell? w _ hw501_0)).trans hw501_0), ((HB.out.cell (World.block_lt_of_cell? w _ hw501_1)).trans hw501_1)⟩ (fun hHeld => ?_)
         clear hK K
         refine norm_ (a' := ?_) ?_ ?_
         rotate_left
         ·show Act.put _ (some 48) _ = _
          simp only [Act.put, List.setIfInBounds_toArray, List.set_cons_zero, List.set_cons_succ, i64_w, i32_w]
          rfl
         refine pure_ (i := 7) (N := some 41) (v := ?_) (a' := ?_) #[true, true, true, true, true, true, true, true, false, false, true, false, false] rfl rfl (any_of HT_.out kk) (fun _ _ _ h => h) (Or.inl ⟨by rfl, ?_⟩) ?_ ?_
         rotate_left
         ·intro w'
          go_simp
          with_reducible rfl
         rotate_left
         ·simp only [Act.put, List.setIfInBounds_toArray, List.set_cons_zero, List.set_cons_succ, i64_w, i32_w]
          rfl
         refine pure_ (i := 8) (N := some 49) (v := ?_) (a' := ?_) #[true, true, true, true, true, true, true, true, true, false, true, false, false] rfl rfl (any_of HT_.out kk) (fun _ _ _ h => h) (Or.inl ⟨by rfl, ?_⟩) ?_ ?_
         rotate_left
         ·intro w'
          go_simp
          with_reducible rfl
         rotate_left
         ·simp only [Act.put, List.setIfInBounds_toArray, List.set_cons_zero, List.set_cons_succ, i64_w, i32_w]
          rfl
         refine pure_ (i := 9) (N := some 50) (v := ?_) (a' := ?_) #[true, true, true, true, true, true, true, true, true, true, true, false, false] rfl rfl (any_of HT_.out kk) (fun _ _ _ h => h) (Or.inl ⟨by rfl, ?_⟩) ?_ ?_
         rotate_left
         ·intro w'
          go_simp
          with_reducible rfl
         rotate_left
         ·simp only [Act.put, List.setIfInBounds_toArray, List.set_cons_zero, List.set_cons_succ, i64_w, i32_w]
          rfl
         exact norm_ (by simp only [putAll, Act.put, List.setIfInBounds_toArray, List.set_cons_zero, List.set_cons_succ, errW_none, errW_some]) (hCont (.slice Ao71 t503.length co71, v508, gb511) _ ⟨hHeld, (by (with_reducible repeat (first | apply Kd.R_alloc | apply Kd.R_drewN | apply Kd.R_drew)); exact Kd.R_mono HO505.out (fun _ hk => ⟨hk.2, hk.1.2⟩)), (by (with_reducible repeat (first | apply Kd.R_alloc | apply Kd.R_drewN | apply Kd.R_drew)); exact Kd.R_mono HO509.out (fun _ hk => ⟨hk.2, hk.1.2⟩)), (by (with_reducible repeat (first | apply Kd.R_alloc | apply Kd.R_drewN | apply Kd.R_drew)); exact Kd.R_mono HO_500001.out (fun _ hk => ⟨hk.1.2, hk.2⟩)), pk, pk, pk, GW511.out, GE511.out, NB493_511.out, NB511_493.out, NB499_511.out, NB511_499.out, pw⟩)
        skip
        refine box_step ?hg (N := 9) ?hd (cs := #[.int .i64 0, .slice none 0 0]) (t := 82) ?hr ?_; (case hd => rfl); (case hg => rfl); (case hr => first | (go_simp; done) | (go_simp; rfl))
        intro gb511 hg w69 hbox hb
        have n0_ := am (Kd.R_below (by (with_reducible repeat (first | apply Kd.R_alloc | apply Kd.R_drewN | apply Kd.R_drew)); exact HO_500001.out) hb)
        have n1_ := bb BK493 hb
        have n2_ := bb BK499 hb
        have n3_ := am (below_step pw hb)
        have n4_ := am (hbox)
        have n5_ := am ((by rw [hg]; exact (below_size pw) : w.heap.size ≤ gb511))
        have n6_ := am ((by rw [hg]; exact (below_size pw) : w.heap.size ≤ gb511))
        have n7_ := am ((by rw [hg]; exact Nat.ne_of_lt (blk_lt pk) : gb493 ≠ gb511))
        have n8_ := am ((by rw [hg]; exact Nat.ne_of_gt (blk_lt pk) : gb511 ≠ gb493))
        have n9_ := am ((by rw [hg]; exact Nat.ne_of_lt (blk_lt pk) : gb499 ≠ gb511))
        have n10_ := am ((by rw [hg]; exact Nat.ne_of_gt (blk_lt pk) : gb511 ≠ gb499))
        clear HO_500001 BK493 BK499 HB
        revert n0_ n1_ n2_ n3_ n4_ n5_ n6_ n7_ n8_ n9_ n10_
        intro HO_500001 BK493 BK499 HB BK511 GW511 GE511 NB493_511 NB511_493 NB499_511 NB511_499
        clear hb hbox hg
        refine hK.out _ _ ⟨bc BK499 0, bc BK499 1, ((HB.out.cell (World.block_lt_of_cell? w _ hw501_0)).trans hw501_0), ((HB.out.cell (World.block_lt_of_cell? w _ hw501_1)).trans hw501_1)⟩ (fun hHeld => ?_)
        clear hK K
        refine norm_ (a' := ?_) ?_ ?_
        rotate_left
        ·show Act.put _ (some 9) _ = _
         simp only [Act.put, List.setIfInBounds_toArray, List.set_cons_zero, List.set_cons_succ, i64_w, i32_w]
         rfl
        refine one_ (i := 5) (N := some 47) #[true, true, true, true, true, true, false, false, false, false, true, false, false] rfl rfl (one_of HT_.out kk) (by decide) (fun K hK => ?_)
        refine goes_ Tryd.func49 kk rfl #[.agg #[.int .i64 ((rd_T78 l1 x8_2).f0), .slice A501_1 ((rd_T78 l1 x8_2).f1).length c501_1]] (by rfl) rfl rfl (by (try simp only [List.map_toArray, List.map_cons, List.map_nil]); first | done | rfl | (simp only [List.length_drop, List.length_take]; rfl)) ?_
        with_reducible refine (L2_octOf.calls k2 ((rd_T78 l1 x8_2).f0) _ _ ((rd_T78 l1 x8_2).f1) t502 t503 _ ?side1 ?side2 A22.out).mono ?_
        (case side1 => repeat (first | exact (Kd.C_below HR501_1.out HB.out) | (with_reducible refine Kd.C_alloc ?_ _) | (with_reducible refine Kd.C_drewN ?_ _) | (with_reducible refine Kd.C_drew ?_)))
        (case side2 => exact HC501_1.out)
        rintro e w70 ⟨v504, rfl, ho0, hb⟩
        refine ⟨_, rfl, ?_⟩
        have n0_ := am (Kd.R_elder' (by (with_reducible repeat (first | apply Kd.R_alloc | apply Kd.R_drewN | apply Kd.R_drew)); exact HO_500001.out) (Kd.R_base ho0) hb)
        have n1_ := am (Kd.R_lower (Kd.R_new' ho0 (Kd.R_lt (by (with_reducible repeat (first | apply Kd.R_alloc | apply Kd.R_drewN | apply Kd.R_drew)); exact HO_500001.out))) (below_size pw))
        have n2_ := bb BK493 hb
        have n3_ := bb BK499 hb
        have n4_ := bb BK511 hb
        have n5_ := am (below_step pw hb)
        clear HO_500001 BK493 BK499 BK511 HB
        revert n0_ n1_ n2_ n3_ n4_ n5_
        intro HO_500001 HO505 BK493 BK499 BK511 HB
        (try clear hb)
        (try clear hb2)
        (try clear hk)
        (try clear hi)
        (try clear ho0)
        obtain ⟨Ao71, co71, eo71⟩ := Kd.R_slice HO505.out
        (first | subst eo71 | (injection eo71 with f1_ f2_ f3_; have f4_ := f1_.symm; have f5_ := f3_.symm; clear f1_ f2_ f3_; subst f4_; subst f5_))
        refine hK.out _ _ ⟨bc BK499 0, bc BK499 1, ((HB.out.cell (World.block_lt_of_cell? w _ hw501_0)).trans hw501_0), ((HB.out.cell (World.block_lt_of_cell? w _ hw501_1)).trans hw501_1)⟩ (fun hHeld => ?_)
        clear hK K
        refine norm_ (a' := ?_) ?_ ?_
        rotate_left
        ·show Act.put _ (some 47) _ = _
         simp only [Act.put, List.setIfInBounds_toArray, List.set_cons_zero, List.set_cons_succ, i64_w, i32_w]
         rfl
        refine one_ (i := 6) (N := some 48) #[true, true, true, true, true, true, true, false, false, false, true, false, false] rfl rfl (one_of HT_.out kk) (by decide) (fun K hK => ?_)
        refine goes_ Tryd.func50 kk rfl #[.agg #[.int .i64 x500000_2, .slice Ao67 x500001_2.length co67], .agg #[.int .i64 t502, .slice Ao71 t503.length co71]] (by rfl) rfl rfl (by (try simp only [List.map_toArray, List.map_cons, List.map_nil]); first | done | rfl | (simp only [List.length_drop, List.length_take]; rfl)) ?_
        with_reducible refine (octagon_Widen.calls x500000_2 _ _ x500001_2 t502 _ _ t503 t506 t507 (some q512) _ ?side1 ?side2 ?side3 ?side4 A23.out (am (ErrAt.below hE2.out pw)).out (am (ErrAt.below hE3.out pw)).out (am (ErrAt.below hE7.out pw)).out).mono ?_
        (case side1 => repeat (first | exact (Kd.R_reads' HO_500001.out).2.2 | (with_reducible refine Kd.C_alloc ?_ _) | (with_reducible refine Kd.C_drewN ?_ _) | (with_reducible refine Kd.C_drew ?_)))
        (case side2 => exact (Kd.R_reads' HO_500001.out).2.1)
        (case side3 => repeat (first | exact (Kd.R_reads' HO505.out).2.2 | (with_reducible refine Kd.C_alloc ?_ _) | (with_reducible refine Kd.C_drewN ?_ _) | (with_reducible refine Kd.C_drew ?_)))
        (case side4 => exact (Kd.R_reads' HO505.out).2.1)
        rintro e w72 ⟨v508, rfl, ho0, hb⟩
        refine ⟨_, rfl, ?_⟩
        have n0_ := am (Kd.R_elder' (by (with_reducible repeat (first | apply Kd.R_alloc | apply Kd.R_drewN | apply Kd.R_drew)); exact HO_500001.out) (Kd.R_base ho0) hb)
        have n1_ := am (Kd.R_elder' (by (with_reducible repeat (first | apply Kd.R_alloc | apply Kd.R_drewN | apply Kd.R_drew)); exact HO505.out) (Kd.R_base ho0) hb)
        have n2_ := am (Kd.R_lower (Kd.R_new' (Kd.R_new' ho0 (Kd.R_lt (by (with_reducible repeat (first | apply Kd.R_alloc | apply Kd.R_drewN | apply Kd.R_drew)); exact HO_500001.out))) (Kd.R_lt (by (with_reducible repeat (first | apply Kd.R_alloc | apply Kd.R_drewN | apply Kd.R_drew)); exact HO505.out))) (below_size pw))
        have n3_ := bb BK493 hb
        have n4_ := bb BK499 hb
        have n5_ := bb BK511 hb
        have n6_ := am (below_step pw hb)
        clear HO_500001 HO505 BK493 BK499 BK511 HB
        revert n0_ n1_ n2_ n3_ n4_ n5_ n6_
        intro HO_500001 HO505 HO509 BK493 BK499 BK511 HB
        (try clear hb)
        (try clear hb2)
        (try clear hk)
        (try clear hi)
        (try clear ho0)
        (try simp only [errW_none, errW_some])
        refine hK.out _ _ ⟨bc BK499 0, bc BK499 1, ((HB.out.cell (World.block_lt_of_cell? w _ hw501_0)).trans hw501_0), ((HB.out.cell (World.block_lt_of_cell? w _ hw501_1)).trans hw501_1)⟩ (fun hHeld => ?_)
        clear hK K
        refine norm_ (a' := ?_) ?_ ?_
        rotate_left
        ·show Act.put _ (some 48) _ = _
         simp only [Act.put, List.setIfInBounds_toArray, List.set_cons_zero, List.set_cons_succ, i64_w, i32_w]
         rfl
        refine pure_ (i := 7) (N := some 41) (v := ?_) (a' := ?_) #[true, true, true, true, true, true, true, true, false, false, true, false, false] rfl rfl (any_of HT_.out kk) (fun _ _ _ h => h) (Or.inl ⟨by rfl, ?_⟩) ?_ ?_
        rotate_left
        ·intro w'
         go_simp
         with_reducible rfl
        rotate_left
        ·simp only [Act.put, List.setIfInBounds_toArray, List.set_cons_zero, List.set_cons_succ, i64_w, i32_w]
         rfl
        refine pure_ (i := 8) (N := some 49) (v := ?_) (a' := ?_) #[true, true, true, true, true, true, true, true, true, false, true, false, false] rfl rfl (any_of HT_.out kk) (fun _ _ _ h => h) (Or.inl ⟨by rfl, ?_⟩) ?_ ?_
        rotate_left
        ·intro w'
         go_simp
         with_reducible rfl
        rotate_left
        ·simp only [Act.put, List.setIfInBounds_toArray, List.set_cons_zero, List.set_cons_succ, i64_w, i32_w]
         rfl
        refine pure_ (i := 9) (N := some 50) (v := ?_) (a' := ?_) #[true, true, true, true, true, true, true, true, true, true, true, false, false] rfl rfl (any_of HT_.out kk) (fun _ _ _ h => h) (Or.inl ⟨by rfl, ?_⟩) ?_ ?_
        rotate_left
        ·intro w'
         go_simp
         with_reducible rfl
        rotate_left
        ·simp only [Act.put, List.setIfInBounds_toArray, List.set_cons_zero, List.set_cons_succ, i64_w, i32_w]
         rfl
        exact norm_ (by simp only [putAll, Act.put, List.setIfInBounds_toArray, List.set_cons_zero, List.set_cons_succ, errW_none, errW_some]) (hCont (.slice Ao71 t503.length co71, v508, gb511) _ ⟨hHeld, (by (with_reducible repeat (first | apply Kd.R_alloc | apply Kd.R_drewN | apply Kd.R_drew)); exact Kd.R_mono HO505.out (fun _ hk => ⟨hk.2, hk.1.2⟩)), (by (with_reducible repeat (first | apply Kd.R_alloc | apply Kd.R_drewN | apply Kd.R_drew)); exact Kd.R_mono HO509.out (fun _ hk => ⟨hk.2, hk.1.2⟩)), (by (with_reducible repeat (first | apply Kd.R_alloc | apply Kd.R_drewN | apply Kd.R_drew)); exact Kd.R_mono HO_500001.out (fun _ hk => ⟨hk.1.2, hk.2⟩)), pk, pk, pk, GW511.out, GE511.out, NB493_511.out, NB511_493.out, NB499_511.out, NB511_499.out, pw⟩)
       rintro ⟨v504, v508, gb511⟩ w73 ⟨hS_, h0_, h1_, h2_, h3_, h4_, h5_, h6_, h7_, h8_, h9_, h10_, h11_, h12_⟩
       have n0_ : Aside0 (Kd.R k95 95 w73 w.heap.size (fun k_ => some k_ ≠ (v508 : Value).ownBlock ∧ some k_ ≠ (.slice Ao67 x500001_2.length co67 : Value).ownBlock) v504 t503) := ⟨h0_⟩
       have n1_ : Aside0 (Kd.R k95 95 w73 w.heap.size (fun k_ => some k_ ≠ (v504 : Value).ownBlock ∧ some k_ ≠ (.slice Ao67 x500001_2.length co67 : Value).ownBlock) v508 t507) := ⟨h1_⟩
       have n2_ : Aside0 (Kd.R k95 95 w73 w.heap.size (fun k_ => some k_ ≠ (v504 : Value).ownBlock ∧ some k_ ≠ (v508 : Value).ownBlock) (.slice Ao67 x500001_2.length co67) x500001_2) := ⟨h2_⟩
       have n3_ : Aside0 (w73.heap[gb493]? = some (.cells #[.int .i64 a0_0, .slice A0_1 l0_1.length c0_1] 78 (0, 0))) := ⟨h3_⟩
       have n4_ : Aside0 (w73.heap[gb499]? = some (.cells #[.int .i64 x500000_2, .slice Ao67 x500001_2.length co67] 82 (0, 0))) := ⟨h4_⟩
       have n5_ : Aside0 (w73.heap[gb511]? = some (.cells #[.int .i64 0, .slice none 0 0] 82 (0, 0))) := ⟨h5_⟩
       have n6_ : Aside0 (w.heap.size ≤ gb511) := ⟨h6_⟩
       have n7_ : Aside0 (w.heap.size ≤ gb511) := ⟨h7_⟩
       have n8_ : Aside0 (gb493 ≠ gb511) := ⟨h8_⟩
       have n9_ : Aside0 (gb511 ≠ gb493) := ⟨h9_⟩
       have n10_ : Aside0 (gb499 ≠ gb511) := ⟨h10_⟩
       have n11_ : Aside0 (gb511 ≠ gb499) := ⟨h11_⟩
       have n12_ : Aside0 (Below w.heap.size w w73) := ⟨h12_⟩
       clear HO_500001
       clear BK493
       clear BK499
       clear HB
       clear h0_ h1_ h2_ h3_ h4_ h5_ h6_ h7_ h8_ h9_ h10_ h11_ h12_
       revert n0_ n1_ n2_ n3_ n4_ n5_ n6_ n7_ n8_ n9_ n10_ n11_ n12_
       intro HO505 HO509 HO_500001 BK493 BK499 BK511 GW511 GE511 NB493_511 NB511_493 NB499_511 NB511_499 HB
       have hHeld : w73.cell? ⟨gb499, 0, none⟩ = some (.int .i64 x500000_2) ∧ w73.cell? ⟨gb499, 1, none⟩ = some (.slice Ao67 x500001_2.length co67) ∧ w73.cell? (ad500.add ((x8_2).toNat * 2)) = some (.int .i64 ((rd_T78 l1 x8_2).f0)) ∧ w73.cell? ⟨(ad500.add ((x8_2).toNat * 2)).block, (ad500.add ((x8_2).toNat * 2)).off + 1, none⟩ = some (.slice A501_1 ((rd_T78 l1 x8_2).f1).length c501_1) := hS_
       obtain ⟨Ao75, co75, eo75⟩ := Kd.R_slice HO509.out
       (first | subst eo75 | (injection eo75 with f1_ f2_ f3_; have f4_ := f1_.symm; have f5_ := f3_.symm; clear f1_ f2_ f3_; subst f4_; subst f5_))
       refine norm_ (a' := ?_) ?_ ?_
       rotate_left
       ·simp only [putAll, Act.put, List.setIfInBounds_toArray, List.set_cons_zero, List.set_cons_succ]
        rfl
       refine one_ (i := 11) (N := none) #[true, true, true, true, true, true, true, true, true, true, true, true, false] rfl rfl (one_of HT_.out kk) (by decide) (fun K hK => ?_)
       have hs74 : w73.cell? ⟨gb511, 0, none⟩ = some (.int .i64 0) := bc BK511 0
       have hfs74 := blk_frozen BK511.out 0
       have hns74_0 := NB493_511.out
       have hns74_1 := NB499_511.out
       have hms74_0 := NB511_493.out
       have hms74_1 := NB511_499.out
       have hs76 : w73.cell? ⟨gb511, 1, none⟩ = some (.slice none 0 0) := bc BK511 1
       have hfs76 := blk_frozen BK511.out 1
       have hns76_0 := NB493_511.out
       have hns76_1 := NB499_511.out
       have hms76_0 := NB511_493.out
       have hms76_1 := NB511_499.out
       refine skip_ (w1 := ?_) (by rfl) rfl ?_ ?_
       rotate_left
       ·go_simp
        rfl
       refine hK.out _ _ ⟨((cell_far (p := ⟨gb511, _, none⟩) NB499_511.out _).trans (((cell_far (p := ⟨gb511, _, none⟩) NB499_511.out _).trans (hHeld.1)))), ((cell_far (p := ⟨gb511, _, none⟩) NB499_511.out _).trans (((cell_far (p := ⟨gb511, _, none⟩) NB499_511.out _).trans (hHeld.2.1)))), ((cell_far (p := ⟨gb511, _, none⟩) (by first | exact Nat.ne_of_lt (Nat.lt_of_lt_of_le (by have := World.block_lt_of_cell? _ _ hw501_0; first | rwa [add_block] at this | exact this) GW511.out) | (rw [add_block]; exact Nat.ne_of_lt (Nat.lt_of_lt_of_le (by have := World.block_lt_of_cell? _ _ hw501_0; first | rwa [add_block] at this | exact this) GW511.out)) | (show (Addr.add _ _).block ≠ _; rw [add_block]; exact Nat.ne_of_lt (Nat.lt_of_lt_of_le (by have := World.block_lt_of_cell? _ _ hw501_0; first | rwa [add_block] at this | exact this) GW511.out)) | (dsimp only; exact Nat.ne_of_lt (Nat.lt_of_lt_of_le (by have := World.block_lt_of_cell? _ _ hw501_0; first | rwa [add_block] at this | exact this) GW511.out))) _).trans (((cell_far (p := ⟨gb511, _, none⟩) (by first | exact Nat.ne_of_lt (Nat.lt_of_lt_of_le (by have := World.block_lt_of_cell? _ _ hw501_0; first | rwa [add_block] at this | exact this) GW511.out) | (rw [add_block]; exact Nat.ne_of_lt (Nat.lt_of_lt_of_le (by have := World.block_lt_of_cell? _ _ hw501_0; first | rwa [add_block] at this | exact this) GW511.out)) | (show (Addr.add _ _).block ≠ _; rw [add_block]; exact Nat.ne_of_lt (Nat.lt_of_lt_of_le (by have := World.block_lt_of_cell? _ _ hw501_0; first | rwa [add_block] at this | exact this) GW511.out)) | (dsimp only; exact Nat.ne_of_lt (Nat.lt_of_lt_of_le (by have := World.block_lt_of_cell? _ _ hw501_0; first | rwa [add_block] at this | exact this) GW511.out))) _).trans (hHeld.2.2.1)))), ((cell_far (p := ⟨gb511, _, none⟩) (by first | exact Nat.ne_of_lt (Nat.lt_of_lt_of_le (by have := World.block_lt_of_cell? _ _ hw501_1; first | rwa [add_block] at this | exact this) GW511.out) | (rw [add_block]; exact Nat.ne_of_lt (Nat.lt_of_lt_of_le (by have := World.block_lt_of_cell? _ _ hw501_1; first | rwa [add_block] at this | exact this) GW511.out)) | (show (Addr.add _ _).block ≠ _; rw [add_block]; exact Nat.ne_of_lt (Nat.lt_of_lt_of_le (by have := World.block_lt_of_cell? _ _ hw501_1; first | rwa [add_block] at this | exact this) GW511.out)) | (dsimp only; exact Nat.ne_of_lt (Nat.lt_of_lt_of_le (by have := World.block_lt_of_cell? _ _ hw501_1; first | rwa [add_block] at this | exact this) GW511.out))) _).trans (((cell_far (p := ⟨gb511, _, none⟩) (by first | exact Nat.ne_of_lt (Nat.lt_of_lt_of_le (by have := World.block_lt_of_cell? _ _ hw501_1; first | rwa [add_block] at this | exact this) GW511.out) | (rw [add_block]; exact Nat.ne_of_lt (Nat.lt_of_lt_of_le (by have := World.block_lt_of_cell? _ _ hw501_1; first | rwa [add_block] at this | exact this) GW511.out)) | (show (Addr.add _ _).block ≠ _; rw [add_block]; exact Nat.ne_of_lt (Nat.lt_of_lt_of_le (by have := World.block_lt_of_cell? _ _ hw501_1; first | rwa [add_block] at this | exact this) GW511.out)) | (dsimp only; exact Nat.ne_of_lt (Nat.lt_of_lt_of_le (by have := World.block_lt_of_cell? _ _ hw501_1; first | rwa [add_block] at this | exact this) GW511.out))) _).trans (hHeld.2.2.2))))⟩ (fun hHeld => ?_)
       clear hK K
       refine pure_ (i := 12) (N := some 10) (v := ?_) (a' := ?_) #[true, true, true, true, true, true, true, true, true, true, true, true, true] rfl rfl (any_of HT_.out kk) (fun _ _ _ h => h) (Or.inl ⟨by rfl, ?_⟩) ?_ ?_
       rotate_left
       ·intro w'
        go_simp
        with_reducible rfl
       rotate_left
       ·simp only [Act.put, List.setIfInBounds_toArray, List.set_cons_zero, List.set_cons_succ, i64_w, i32_w]
        rfl
       refine done_ (done_of HT_.out kk) ?_
       (try simp only [errW_none, errW_some])
       try go_wp2
       go_ret
       exact ⟨pe, pw⟩
     rw [if_neg c20] at H
     exact absurd H (by simp)
    rw [if_neg c19] at H
    have c19b0 : decide (x8_2 < (l1.length : Int)) = false := decide_eq_false c19
    clear c19
    by_cases c77 : x7_2 ≤ (wrap64 ((l0_1.length : Int) + 1))
    ·rw [if_pos c77] at H
     have c77b0 : decide (x7_2 ≤ (wrap64 ((l0_1.length : Int) + 1))) = true := decide_eq_true c77
     clear c77
     as_aux_lemma =>
      obtain rfl := Option.some.inj H
      have hnb78 := NB493_499.out
      have hnc78 := NB499_493.out
      have hcz79_0 : wr.cell? ⟨gb493, 0, none⟩ = some (.int .i64 a0_0) := bc BK493 0
      have hcz79_1 : wr.cell? ⟨gb493, 1, none⟩ = some (.slice A0_1 l0_1.length c0_1) := bc BK493 1
      have hfz79_0 := blk_frozen BK493.out 0
      have hfz79_1 := blk_frozen BK493.out 1
      go_wp2
      go_ret
      exact ⟨pe, pw⟩
    rw [if_neg c77] at H
    exact absurd H (by simp)

end Go.Proofs.YtjpboodkmhikpaaDoor.Z
