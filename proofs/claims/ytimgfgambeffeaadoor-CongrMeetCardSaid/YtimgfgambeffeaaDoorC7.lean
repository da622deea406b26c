-- Written by wip/xprint.py (the session's program over the kit's print).
import Derived.Test.YtimgfgambeffeaaDoorEb
import Derived.Test.YtimgfgambeffeaaDoorC0
import Derived.Test.YtimgfgambeffeaaDoorC4
import Derived.Test.YtimgfgambeffeaaDoorC6
namespace Go.Proofs.YtimgfgambeffeaaDoor.C
open Go.RowKit Go.Proofs.YtimgfgambeffeaaDoorW.PrintWords Go.Proofs.YtimgfgambeffeaaDoorW.PrintLast Go.Proofs.YtimgfgambeffeaaDoorW.PrintMore Go.Proofs.Rcg
attribute [local go_sem] max2_int min2_int max_two min_two max_three min_three max_four min_four   -- for this text's walks alone
set_option linter.unusedVariables false
set_option linter.unusedSimpArgs false

/-! ### R2_LeastOf: function 24 -/
def R2_LeastOf.l0 : Nat → List Int → Int → Int → Option (Int × Int)
 | 0, _, _, _ => none
 | k + 1, x0, x3, x4 => if x4 < (x0.length : Int) then (if 0 ≤ x4 then (if 0 < (x0.length : Int) then ((R2_common.f k x3 (wrap64 ((rd x0 x4) - (rd x0 0)))).bind fun t162 => (R2_LeastOf.l0 k x0 t162 (wrap64 (x4 + 1)))) else (none)) else (none)) else (if x3 > 1048576 then (some (0, 1)) else (if x3 = 0 then (if 0 < (x0.length : Int) then ((R2_Far.f (rd x0 0) 1099511627776).bind fun t164 => (if t164 = true then (some (0, 1)) else (some (rd x0 0, 0)))) else (none)) else (if 0 < (x0.length : Int) then (if (Int.tmod (rd x0 0) x3) < 0 then (some (wrap64 ((Int.tmod (rd x0 0) x3) + x3), x3)) else (some (Int.tmod (rd x0 0) x3, x3))) else (none))))
def R2_LeastOf.f (k : Nat) (l0 : List Int) : Option (Int × Int) := R2_LeastOf.l0 k l0 0 0
theorem R2_LeastOf.mono_l : ∀ k, (∀ y0 y1 y2, LeO (R2_LeastOf.l0 k y0 y1 y2) (R2_LeastOf.l0 (k + 1) y0 y1 y2))
 | 0 => fun _ _ _ r h => by simp [R2_LeastOf.l0] at h
 | k + 1 => by
  have ih0 := R2_LeastOf.mono_l k
  intro y0 y1 y2
  unfold R2_LeastOf.l0
  repeat' first
  | (with_reducible exact ih0 _ _ _)
  | (with_reducible exact R2_common.mono _ _ _)
  | (with_reducible exact LeO.refl _)
  | (with_reducible exact LeO.none _)
  | (with_reducible refine LeO.ite ?_ ?_)
  | (with_reducible refine LeO.bind ?_ (fun _ => ?_))
  | exact ih0 _ _ _
  | exact R2_common.mono _ _ _
  | exact LeO.none _
  | refine LeO.ite ?_ ?_
  | refine LeO.bind ?_ (fun _ => ?_)
theorem R2_LeastOf.mono : ∀ a0 k, LeO (R2_LeastOf.f k a0) (R2_LeastOf.f (k + 1) a0) := by
 intro a0 k
 have ih0 := R2_LeastOf.mono_l k
 unfold R2_LeastOf.f
 repeat' first
   | (with_reducible exact ih0 _ _ _)
   | (with_reducible exact R2_common.mono _ _ _)
   | (with_reducible exact LeO.refl _)
   | (with_reducible exact LeO.none _)
   | (with_reducible refine LeO.ite ?_ ?_)
   | (with_reducible refine LeO.bind ?_ (fun _ => ?_))
   | exact ih0 _ _ _
   | exact R2_common.mono _ _ _
   | exact LeO.none _
   | refine LeO.ite ?_ ?_
   | refine LeO.bind ?_ (fun _ => ?_)
set_option maxHeartbeats 8000000 in
set_option maxRecDepth 100000 in
theorem R2_LeastOf.calls [EA] (k : Nat) (A0 : Option Addr) (c0 : Nat) (l0 : List Int) (r1 : Int) (r2 : Int) (w : World) (hr0 : Kd.C (Kd.int .i64) w A0 l0.length l0) (hc0 : l0.length ≤ c0) (h : R2_LeastOf.f k l0 = some (r1, r2)) :
  Calls Tryd.prog 24 #[.slice A0 l0.length c0] w fun e w' => e = .returned (.agg #[.int .i64 r1, .int .i64 r2]) ∧ Below w.heap.size w w' := by
 have hu32 := Tryd.underlying32
 have HR0 := am hr0
 have HC0 := am hc0
 clear hr0 hc0
 have HB := am (Below.refl w.heap.size w)
 have H : (R2_LeastOf.l0 k l0 0 0) = some (r1, r2) := h
 clear h
 have H' := am H
 clear H
 go_enter Tryd.func24, Tryd.ntmps24
 go_wp2_with (first | ((with_reducible refine gate_dst (N := 2) rfl ?_); refine box_event ?hg (N := 2) ?hd (cs := #[.int .i64 0, .int .i64 0]) (t := 32) ?hr ?_; (case hd => rfl); (case hg => rfl); (case hr => first | (go_simp; done) | (go_simp; rfl)); intro gb159 hg w2 hbox hb; have n0_ := am (below_step pw hb); have n1_ := am (hbox); have n2_ := am ((by rw [hg]; exact (below_size pw) : w.heap.size ≤ gb159)); have n3_ := am ((by rw [hg]; exact (below_size pw) : w.heap.size ≤ gb159)); clear HB; have HB := n0_; have BK159 := n1_; have GW159 := n2_; have GE159 := n3_; clear n0_ n1_ n2_ n3_; clear hb hbox hg))
 repeat (go_quiet (first | ((with_reducible refine gate_dst (N := 2) rfl ?_); refine box_event ?hg (N := 2) ?hd (cs := #[.int .i64 0, .int .i64 0]) (t := 32) ?hr ?_; (case hd => rfl); (case hg => rfl); (case hr => first | (go_simp; done) | (go_simp; rfl)); intro gb159 hg w2 hbox hb; have n0_ := am (below_step pw hb); have n1_ := am (hbox); have n2_ := am ((by rw [hg]; exact (below_size pw) : w.heap.size ≤ gb159)); have n3_ := am ((by rw [hg]; exact (below_size pw) : w.heap.size ≤ gb159)); clear HB; have HB := n0_; have BK159 := n1_; have GW159 := n2_; have GE159 := n3_; clear n0_ n1_ n2_ n3_; clear hb hbox hg)); try go_wp2_with (first | ((with_reducible refine gate_dst (N := 2) rfl ?_); refine box_event ?hg (N := 2) ?hd (cs := #[.int .i64 0, .int .i64 0]) (t := 32) ?hr ?_; (case hd => rfl); (case hg => rfl); (case hr => first | (go_simp; done) | (go_simp; rfl)); intro gb159 hg w2 hbox hb; have n0_ := am (below_step pw hb); have n1_ := am (hbox); have n2_ := am ((by rw [hg]; exact (below_size pw) : w.heap.size ≤ gb159)); have n3_ := am ((by rw [hg]; exact (below_size pw) : w.heap.size ≤ gb159)); clear HB; have HB := n0_; have BK159 := n1_; have GW159 := n2_; have GE159 := n3_; clear n0_ n1_ n2_ n3_; clear hb hbox hg)))
 go_loopg [3, 4] k (fun kq v3 v4 w' => ∃ (x3_1 : Int) (x4_1 : Int), v3 = .int .i64 x3_1 ∧ v4 = .int .i64 x4_1 ∧ Aside0 (R2_LeastOf.l0 kq l0 x3_1 x4_1 = some (r1, r2)) ∧ Aside0 (kq ≤ k) ∧ Aside0 (w'.heap[gb159]? = some (.cells #[.int .i64 0, .int .i64 0] 32 (0, 0))) ∧ Aside0 (Below w.heap.size w w'))
 case atStart => exact ⟨(0), (0), pr, pr, H', ⟨Nat.le_refl _⟩, ⟨by (with_reducible repeat (first | refine blk_drewN ?_ _ | refine blk_drew ?_ | refine blk_alloc ?_ _)); exact BK159.out⟩, ⟨pw⟩⟩
 case round =>
  clear H'
  try clear c2
  try clear p2
  obtain ⟨x3_1, x4_1, rfl, rfl, HA, HK1, BK159, HB⟩ := hrel
  cases gk with
  | zero => exact absurd HA.out (by simp [R2_LeastOf.l0])
  | succ k1 =>
   have H := HA.out
   clear HA
   simp only [R2_LeastOf.l0] at H
   by_cases c3 : x4_1 < (l0.length : Int)
   ·rw [if_pos c3] at H
    have c3b0 : decide (x4_1 < (l0.length : Int)) = true := decide_eq_true c3
    clear c3
    by_cases c4 : 0 ≤ x4_1
    ·rw [if_pos c4] at H
     have c4b0 : decide (0 ≤ x4_1) = true := decide_eq_true c4
     clear c4
     by_cases c5 : 0 < (l0.length : Int)
     ·rw [if_pos c5] at H
      have c5b0 : decide (0 < (l0.length : Int)) = true := decide_eq_true c5
      have c5b1 : decide (0 < l0.length) = true := decide_eq_true (by omega)
      clear c5
      replace H := Option.bind_eq_some_iff.mp H
      obtain ⟨t162, A60, H⟩ := H
      replace H : (R2_LeastOf.l0 k1 l0 t162 (wrap64 (x4_1 + 1))) = some (r1, r2) := H
      have A6 := am A60
      clear A60
      have H' := am H
      clear H
      have p160 : 0 ≤ (x4_1 : Int) := of_decide_eq_true (by first | (with_reducible assumption) | assumption)
      have q160 : x4_1 < (l0.length : Int) := of_decide_eq_true (by first | (with_reducible assumption) | assumption)
      obtain ⟨ad160, e160, hx160_0⟩ := Kd.at_int HR0.out x4_1 p160 q160
      cases e160
      replace hx160_0 := (HB.out.cell (World.block_lt_of_cell? w _ hx160_0)).trans hx160_0
      replace p160 := eq_true p160
      replace q160 := eq_true q160
      have p161 : 0 ≤ (0 : Int) := (by omega)
      have q161 : 0 < (l0.length : Int) := of_decide_eq_true (by first | (with_reducible assumption) | assumption)
      obtain ⟨ad161, e161, hx161_0⟩ := Kd.at_int HR0.out 0 p161 q161
      obtain rfl : ad160 = ad161 := (by injection e161)
      have qi161 : (0 < l0.length) = True := eq_true (by omega)
      (try rw [show ((0 : Int)).toNat = 0 from rfl] at hx161_0)
      (try rw [Addr.add_zero'] at hx161_0)
      replace hx161_0 := (HB.out.cell (World.block_lt_of_cell? w _ hx161_0)).trans hx161_0
      replace p161 := eq_true p161
      replace q161 := eq_true q161
      go_wp2_with (first | (go_at_call 60; (with_reducible refine (R2_common.calls k1 x3_1 (wrap64 ((rd l0 x4_1) - (rd l0 0))) t162 _ A6.out).mono ?_); rintro e w' ⟨rfl, ⟨nd, rfl⟩⟩; (try first | exact ⟨rfl, _, World.drewN_drewN _ _ _⟩ | exact ⟨rfl, _, Eq.trans (World.drewN_drewN _ _ _) (congrArg (World.drewN _) (Nat.add_assoc _ _ _))⟩)))
      repeat (go_quiet (first | (go_at_call 60; (with_reducible refine (R2_common.calls k1 x3_1 (wrap64 ((rd l0 x4_1) - (rd l0 0))) t162 _ A6.out).mono ?_); rintro e w' ⟨rfl, ⟨nd, rfl⟩⟩; (try first | exact ⟨rfl, _, World.drewN_drewN _ _ _⟩ | exact ⟨rfl, _, Eq.trans (World.drewN_drewN _ _ _) (congrArg (World.drewN _) (Nat.add_assoc _ _ _))⟩))); try go_wp2_with (first | (go_at_call 60; (with_reducible refine (R2_common.calls k1 x3_1 (wrap64 ((rd l0 x4_1) - (rd l0 0))) t162 _ A6.out).mono ?_); rintro e w' ⟨rfl, ⟨nd, rfl⟩⟩; (try first | exact ⟨rfl, _, World.drewN_drewN _ _ _⟩ | exact ⟨rfl, _, Eq.trans (World.drewN_drewN _ _ _) (congrArg (World.drewN _) (Nat.add_assoc _ _ _))⟩))))
      go_roundg k1
      case measure => have := HK1.out; omega
      case rel => exact ⟨(t162), (wrap64 (x4_1 + 1)), pr, pr, H', ⟨by have := HK1.out; omega⟩, ⟨by (with_reducible repeat (first | refine blk_drewN ?_ _ | refine blk_drew ?_ | refine blk_alloc ?_ _)); exact BK159.out⟩, ⟨pw⟩⟩
     rw [if_neg c5] at H
     exact absurd H (by simp)
    rw [if_neg c4] at H
    exact absurd H (by simp)
   rw [if_neg c3] at H
   have c3b0 : decide (x4_1 < (l0.length : Int)) = false := decide_eq_false c3
   clear c3
   by_cases c7 : x3_1 > 1048576
   ·rw [if_pos c7] at H
    have c7b0 : decide (1048576 < x3_1) = true := decide_eq_true c7
    clear c7
    simp only [Option.some.injEq, Prod.mk.injEq] at H
    obtain ⟨rfl, rfl⟩ := H
    have hcz8_0 : wr.cell? ⟨gb159, 0, none⟩ = some (.int .i64 0) := bc BK159 0
    have hcz8_1 : wr.cell? ⟨gb159, 1, none⟩ = some (.int .i64 0) := bc BK159 1
    have hfz8_0 := blk_frozen BK159.out 0
    have hfz8_1 := blk_frozen BK159.out 1
    go_wp2
    repeat (go_quiet (fail); try go_wp2)
    refine bodyPost_ret (results_cell_row rfl _ _ gb159 32 #[.int .i64 0, .int .i64 1] (0, 0) _ rfl (by (with_reducible repeat (first | refine blk_drewN ?_ _ | refine blk_drew ?_ | refine blk_alloc ?_ _)); refine blk_put (cs := #[.int .i64 0, .int .i64 0]) ?_ 1 _ rfl; (with_reducible repeat (first | refine blk_drewN ?_ _ | refine blk_drew ?_ | refine blk_alloc ?_ _)); refine blk_put (cs := #[.int .i64 0, .int .i64 0]) ?_ 0 _ rfl; (with_reducible repeat (first | refine blk_drewN ?_ _ | refine blk_drew ?_ | refine blk_alloc ?_ _)); exact BK159.out) Tryd.underlying32 rfl kk) rfl ?_
    exact ⟨pe, pw⟩
   rw [if_neg c7] at H
   have c7b0 : decide (1048576 < x3_1) = false := decide_eq_false c7
   clear c7
   by_cases c9 : x3_1 = 0
   ·rw [if_pos c9] at H
    have c9b0 : (x3_1 == 0) = true := beq_iff_eq.mpr c9
    have c9b1 : (x3_1 != 0) = false := bne_eq_false_iff_eq.mpr c9
    clear c9
    by_cases c10 : 0 < (l0.length : Int)
    ·rw [if_pos c10] at H
     have c10b0 : decide (0 < (l0.length : Int)) = true := decide_eq_true c10
     have c10b1 : decide (0 < l0.length) = true := decide_eq_true (by omega)
     clear c10
     replace H := Option.bind_eq_some_iff.mp H
     obtain ⟨t164, A110, H⟩ := H
     replace H : (if t164 = true then (some (0, 1)) else (some (rd l0 0, 0))) = some (r1, r2) := H
     have A11 := am A110
     clear A110
     by_cases c12 : t164 = true
     ·subst c12
      have H1 : (some (0, 1)) = some (r1, r2) := by rw [if_pos rfl] at H; exact H
      clear H
      have H := H1
      clear H1
      simp only [Option.some.injEq, Prod.mk.injEq] at H
      obtain ⟨rfl, rfl⟩ := H
      have p163 : 0 ≤ (0 : Int) := (by omega)
      have q163 : 0 < (l0.length : Int) := of_decide_eq_true (by first | (with_reducible assumption) | assumption)
      obtain ⟨ad163, e163, hx163_0⟩ := Kd.at_int HR0.out 0 p163 q163
      cases e163
      have qi163 : (0 < l0.length) = True := eq_true (by omega)
      (try rw [show ((0 : Int)).toNat = 0 from rfl] at hx163_0)
      (try rw [Addr.add_zero'] at hx163_0)
      replace hx163_0 := (HB.out.cell (World.block_lt_of_cell? w _ hx163_0)).trans hx163_0
      replace p163 := eq_true p163
      replace q163 := eq_true q163
      go_wp2_with (first | (go_at_call 27; (with_reducible refine (R2_Far.calls (rd l0 0) 1099511627776 true _ A11.out).mono ?_); rintro e w' ⟨rfl, ⟨nd, rfl⟩⟩; (try first | exact ⟨rfl, _, World.drewN_drewN _ _ _⟩ | exact ⟨rfl, _, Eq.trans (World.drewN_drewN _ _ _) (congrArg (World.drewN _) (Nat.add_assoc _ _ _))⟩); have hcz13_0 : wr.cell? ⟨gb159, 0, none⟩ = some (.int .i64 0) := bc BK159 0; have hcz13_1 : wr.cell? ⟨gb159, 1, none⟩ = some (.int .i64 0) := bc BK159 1; have hfz13_0 := blk_frozen BK159.out 0; have hfz13_1 := blk_frozen BK159.out 1))
      repeat (go_quiet (first | (go_at_call 27; (with_reducible refine (R2_Far.calls (rd l0 0) 1099511627776 true _ A11.out).mono ?_); rintro e w' ⟨rfl, ⟨nd, rfl⟩⟩; (try first | exact ⟨rfl, _, World.drewN_drewN _ _ _⟩ | exact ⟨rfl, _, Eq.trans (World.drewN_drewN _ _ _) (congrArg (World.drewN _) (Nat.add_assoc _ _ _))⟩); have hcz13_0 : wr.cell? ⟨gb159, 0, none⟩ = some (.int .i64 0) := bc BK159 0; have hcz13_1 : wr.cell? ⟨gb159, 1, none⟩ = some (.int .i64 0) := bc BK159 1; have hfz13_0 := blk_frozen BK159.out 0; have hfz13_1 := blk_frozen BK159.out 1)); try go_wp2_with (first | (go_at_call 27; (with_reducible refine (R2_Far.calls (rd l0 0) 1099511627776 true _ A11.out).mono ?_); rintro e w' ⟨rfl, ⟨nd, rfl⟩⟩; (try first | exact ⟨rfl, _, World.drewN_drewN _ _ _⟩ | exact ⟨rfl, _, Eq.trans (World.drewN_drewN _ _ _) (congrArg (World.drewN _) (Nat.add_assoc _ _ _))⟩); have hcz13_0 : wr.cell? ⟨gb159, 0, none⟩ = some (.int .i64 0) := bc BK159 0; have hcz13_1 : wr.cell? ⟨gb159, 1, none⟩ = some (.int .i64 0) := bc BK159 1; have hfz13_0 := blk_frozen BK159.out 0; have hfz13_1 := blk_frozen BK159.out 1)))
      refine bodyPost_ret (results_cell_row rfl _ _ gb159 32 #[.int .i64 0, .int .i64 1] (0, 0) _ rfl (by (with_reducible repeat (first | refine blk_drewN ?_ _ | refine blk_drew ?_ | refine blk_alloc ?_ _)); refine blk_put (cs := #[.int .i64 0, .int .i64 0]) ?_ 1 _ rfl; (with_reducible repeat (first | refine blk_drewN ?_ _ | refine blk_drew ?_ | refine blk_alloc ?_ _)); refine blk_put (cs := #[.int .i64 0, .int .i64 0]) ?_ 0 _ rfl; (with_reducible repeat (first | refine blk_drewN ?_ _ | refine blk_drew ?_ | refine blk_alloc ?_ _)); exact BK159.out) Tryd.underlying32 rfl kk) rfl ?_
      exact ⟨pe, pw⟩
     replace c12 := Bool.eq_false_iff.mpr c12
     subst c12
     have H1 : (some (rd l0 0, 0)) = some (r1, r2) := by rw [if_neg (show ¬ (false = true) by decide)] at H; exact H
     clear H
     have H := H1
     clear H1
     simp only [Option.some.injEq, Prod.mk.injEq] at H
     obtain ⟨rfl, rfl⟩ := H
     have p163 : 0 ≤ (0 : Int) := (by omega)
     have q163 : 0 < (l0.length : Int) := of_decide_eq_true (by first | (with_reducible assumption) | assumption)
     obtain ⟨ad163, e163, hx163_0⟩ := Kd.at_int HR0.out 0 p163 q163
     cases e163
     have qi163 : (0 < l0.length) = True := eq_true (by omega)
     (try rw [show ((0 : Int)).toNat = 0 from rfl] at hx163_0)
     (try rw [Addr.add_zero'] at hx163_0)
     replace hx163_0 := (HB.out.cell (World.block_lt_of_cell? w _ hx163_0)).trans hx163_0
     replace p163 := eq_true p163
     replace q163 := eq_true q163
     go_wp2_with (first | (go_at_call 27; (with_reducible refine (R2_Far.calls (rd l0 0) 1099511627776 false _ A11.out).mono ?_); rintro e w' ⟨rfl, ⟨nd, rfl⟩⟩; (try first | exact ⟨rfl, _, World.drewN_drewN _ _ _⟩ | exact ⟨rfl, _, Eq.trans (World.drewN_drewN _ _ _) (congrArg (World.drewN _) (Nat.add_assoc _ _ _))⟩); have p165 : 0 ≤ (0 : Int) := (by omega); have q165 : 0 < (l0.length : Int) := of_decide_eq_true (by first | (with_reducible assumption) | assumption); obtain ⟨ad165, e165, hx165_0⟩ := Kd.at_int HR0.out 0 p165 q165; obtain rfl : ad163 = ad165 := (by injection e165); have qi165 : (0 < l0.length) = True := eq_true (by omega); (try rw [show ((0 : Int)).toNat = 0 from rfl] at hx165_0); (try rw [Addr.add_zero'] at hx165_0); replace hx165_0 := (HB.out.cell (World.block_lt_of_cell? w _ hx165_0)).trans hx165_0; replace p165 := eq_true p165; replace q165 := eq_true q165; have hcz14_0 : wr.cell? ⟨gb159, 0, none⟩ = some (.int .i64 0) := bc BK159 0; have hcz14_1 : wr.cell? ⟨gb159, 1, none⟩ = some (.int .i64 0) := bc BK159 1; have hfz14_0 := blk_frozen BK159.out 0; have hfz14_1 := blk_frozen BK159.out 1))
     repeat (go_quiet (first | (go_at_call 27; (with_reducible refine (R2_Far.calls (rd l0 0) 1099511627776 false _ A11.out).mono ?_); rintro e w' ⟨rfl, ⟨nd, rfl⟩⟩; (try first | exact ⟨rfl, _, World.drewN_drewN _ _ _⟩ | exact ⟨rfl, _, Eq.trans (World.drewN_drewN _ _ _) (congrArg (World.drewN _) (Nat.add_assoc _ _ _))⟩); have p165 : 0 ≤ (0 : Int) := (by omega); have q165 : 0 < (l0.length : Int) := of_decide_eq_true (by first | (with_reducible assumption) | assumption); obtain ⟨ad165, e165, hx165_0⟩ := Kd.at_int HR0.out 0 p165 q165; obtain rfl : ad163 = ad165 := (by injection e165); have qi165 : (0 < l0.length) = True := eq_true (by omega); (try rw [show ((0 : Int)).toNat = 0 from rfl] at hx165_0); (try rw [Addr.add_zero'] at hx165_0); replace hx165_0 := (HB.out.cell (World.block_lt_of_cell? w _ hx165_0)).trans hx165_0; replace p165 := eq_true p165; replace q165 := eq_true q165; have hcz14_0 : wr.cell? ⟨gb159, 0, none⟩ = some (.int .i64 0) := bc BK159 0; have hcz14_1 : wr.cell? ⟨gb159, 1, none⟩ = some (.int .i64 0) := bc BK159 1; have hfz14_0 := blk_frozen BK159.out 0; have hfz14_1 := blk_frozen BK159.out 1)); try go_wp2_with (first | (go_at_call 27; (with_reducible refine (R2_Far.calls (rd l0 0) 1099511627776 false _ A11.out).mono ?_); rintro e w' ⟨rfl, ⟨nd, rfl⟩⟩; (try first | exact ⟨rfl, _, World.drewN_drewN _ _ _⟩ | exact ⟨rfl, _, Eq.trans (World.drewN_drewN _ _ _) (congrArg (World.drewN _) (Nat.add_assoc _ _ _))⟩); have p165 : 0 ≤ (0 : Int) := (by omega); have q165 : 0 < (l0.length : Int) := of_decide_eq_true (by first | (with_reducible assumption) | assumption); obtain ⟨ad165, e165, hx165_0⟩ := Kd.at_int HR0.out 0 p165 q165; obtain rfl : ad163 = ad165 := (by injection e165); have qi165 : (0 < l0.length) = True := eq_true (by omega); (try rw [show ((0 : Int)).toNat = 0 from rfl] at hx165_0); (try rw [Addr.add_zero'] at hx165_0); replace hx165_0 := (HB.out.cell (World.block_lt_of_cell? w _ hx165_0)).trans hx165_0; replace p165 := eq_true p165; replace q165 := eq_true q165; have hcz14_0 : wr.cell? ⟨gb159, 0, none⟩ = some (.int .i64 0) := bc BK159 0; have hcz14_1 : wr.cell? ⟨gb159, 1, none⟩ = some (.int .i64 0) := bc BK159 1; have hfz14_0 := blk_frozen BK159.out 0; have hfz14_1 := blk_frozen BK159.out 1)))
     refine bodyPost_ret (results_cell_row rfl _ _ gb159 32 #[.int .i64 (rd l0 0), .int .i64 0] (0, 0) _ rfl (by (with_reducible repeat (first | refine blk_drewN ?_ _ | refine blk_drew ?_ | refine blk_alloc ?_ _)); refine blk_put (cs := #[.int .i64 (rd l0 0), .int .i64 0]) ?_ 1 _ rfl; (with_reducible repeat (first | refine blk_drewN ?_ _ | refine blk_drew ?_ | refine blk_alloc ?_ _)); refine blk_put (cs := #[.int .i64 0, .int .i64 0]) ?_ 0 _ rfl; (with_reducible repeat (first | refine blk_drewN ?_ _ | refine blk_drew ?_ | refine blk_alloc ?_ _)); exact BK159.out) Tryd.underlying32 rfl kk) rfl ?_
     exact ⟨pe, pw⟩
    rw [if_neg c10] at H
    exact absurd H (by simp)
   rw [if_neg c9] at H
   have c9b0 : (x3_1 == 0) = false := beq_eq_false_iff_ne.mpr c9
   have c9b1 : (x3_1 != 0) = true := bne_iff_ne.mpr c9
   by_cases c15 : 0 < (l0.length : Int)
   ·rw [if_pos c15] at H
    have c15b0 : decide (0 < (l0.length : Int)) = true := decide_eq_true c15
    have c15b1 : decide (0 < l0.length) = true := decide_eq_true (by omega)
    clear c15
    by_cases c16 : (Int.tmod (rd l0 0) x3_1) < 0
    ·rw [if_pos c16] at H
     have c16b0 : decide ((Int.tmod (rd l0 0) x3_1) < 0) = true := decide_eq_true c16
     clear c16
     simp only [Option.some.injEq, Prod.mk.injEq] at H
     obtain ⟨rfl, rfl⟩ := H
     have p166 : 0 ≤ (0 : Int) := (by omega)
     have q166 : 0 < (l0.length : Int) := of_decide_eq_true (by first | (with_reducible assumption) | assumption)
     obtain ⟨ad166, e166, hx166_0⟩ := Kd.at_int HR0.out 0 p166 q166
     cases e166
     have qi166 : (0 < l0.length) = True := eq_true (by omega)
     (try rw [show ((0 : Int)).toNat = 0 from rfl] at hx166_0)
     (try rw [Addr.add_zero'] at hx166_0)
     replace hx166_0 := (HB.out.cell (World.block_lt_of_cell? w _ hx166_0)).trans hx166_0
     replace p166 := eq_true p166
     replace q166 := eq_true q166
     have hcz17_0 : wr.cell? ⟨gb159, 0, none⟩ = some (.int .i64 0) := bc BK159 0
     have hcz17_1 : wr.cell? ⟨gb159, 1, none⟩ = some (.int .i64 0) := bc BK159 1
     have hfz17_0 := blk_frozen BK159.out 0
     have hfz17_1 := blk_frozen BK159.out 1
     go_wp2
     repeat (go_quiet (fail); try go_wp2)
     refine bodyPost_ret (results_cell_row rfl _ _ gb159 32 #[.int .i64 (wrap64 ((Int.tmod (rd l0 0) x3_1) + x3_1)), .int .i64 x3_1] (0, 0) _ rfl (by (with_reducible repeat (first | refine blk_drewN ?_ _ | refine blk_drew ?_ | refine blk_alloc ?_ _)); refine blk_put (cs := #[.int .i64 (wrap64 ((Int.tmod (rd l0 0) x3_1) + x3_1)), .int .i64 0]) ?_ 1 _ rfl; (with_reducible repeat (first | refine blk_drewN ?_ _ | refine blk_drew ?_ | refine blk_alloc ?_ _)); refine blk_put (cs := #[.int .i64 0, .int .i64 0]) ?_ 0 _ rfl; (with_reducible repeat (first | refine blk_drewN ?_ _ | refine blk_drew ?_ | refine blk_alloc ?_ _)); exact BK159.out) Tryd.underlying32 rfl kk) rfl ?_
     exact ⟨pe, pw⟩
    rw [if_neg c16] at H
    have c16b0 : decide ((Int.tmod (rd l0 0) x3_1) < 0) = false := decide_eq_false c16
    clear c16
    simp only [Option.some.injEq, Prod.mk.injEq] at H
    obtain ⟨rfl, rfl⟩ := H
    have p166 : 0 ≤ (0 : Int) := (by omega)
    have q166 : 0 < (l0.length : Int) := of_decide_eq_true (by first | (with_reducible assumption) | assumption)
    obtain ⟨ad166, e166, hx166_0⟩ := Kd.at_int HR0.out 0 p166 q166
    cases e166
    have qi166 : (0 < l0.length) = True := eq_true (by omega)
    (try rw [show ((0 : Int)).toNat = 0 from rfl] at hx166_0)
    (try rw [Addr.add_zero'] at hx166_0)
    replace hx166_0 := (HB.out.cell (World.block_lt_of_cell? w _ hx166_0)).trans hx166_0
    replace p166 := eq_true p166
    replace q166 := eq_true q166
    have hcz18_0 : wr.cell? ⟨gb159, 0, none⟩ = some (.int .i64 0) := bc BK159 0
    have hcz18_1 : wr.cell? ⟨gb159, 1, none⟩ = some (.int .i64 0) := bc BK159 1
    have hfz18_0 := blk_frozen BK159.out 0
    have hfz18_1 := blk_frozen BK159.out 1
    go_wp2
    repeat (go_quiet (fail); try go_wp2)
    refine bodyPost_ret (results_cell_row rfl _ _ gb159 32 #[.int .i64 (Int.tmod (rd l0 0) x3_1), .int .i64 x3_1] (0, 0) _ rfl (by (with_reducible repeat (first | refine blk_drewN ?_ _ | refine blk_drew ?_ | refine blk_alloc ?_ _)); refine blk_put (cs := #[.int .i64 (Int.tmod (rd l0 0) x3_1), .int .i64 0]) ?_ 1 _ rfl; (with_reducible repeat (first | refine blk_drewN ?_ _ | refine blk_drew ?_ | refine blk_alloc ?_ _)); refine blk_put (cs := #[.int .i64 0, .int .i64 0]) ?_ 0 _ rfl; (with_reducible repeat (first | refine blk_drewN ?_ _ | refine blk_drew ?_ | refine blk_alloc ?_ _)); exact BK159.out) Tryd.underlying32 rfl kk) rfl ?_
    exact ⟨pe, pw⟩
   rw [if_neg c15] at H
   exact absurd H (by simp)

/-! ### congr_Join: function 25 -/
def congr_Join.f (k : Nat) (a0_0 : Int) (a0_1 : Int) (a1_0 : Int) (a1_1 : Int) : Option (Int × Int × Option Int) := (congr_two.f k a0_0 a0_1 a1_0 a1_1).bind fun t170 => (if t170.isNone = true then ((congr_gcd.f k (([a0_1, a1_1, wrap64 (a0_0 - a1_0)] : List Int))).bind fun t175 => ((congr_told.f k a0_0 t175).bind fun bt176 => (some (bt176.1, bt176.2, none)))) else (some (0, 0, some (t170.getD 0))))
theorem congr_Join.mono : ∀ a0 a1 a2 a3 k, LeO (congr_Join.f k a0 a1 a2 a3) (congr_Join.f (k + 1) a0 a1 a2 a3) := by
 intro a0 a1 a2 a3 k
 unfold congr_Join.f
 repeat' first
   | (with_reducible exact congr_gcd.mono _ _)
   | (with_reducible exact congr_told.mono _ _ _)
   | (with_reducible exact congr_two.mono _ _ _ _ _)
   | (with_reducible exact LeO.refl _)
   | (with_reducible exact LeO.none _)
   | (with_reducible refine LeO.ite ?_ ?_)
   | (with_reducible refine LeO.bind ?_ (fun _ => ?_))
   | exact congr_gcd.mono _ _
   | exact congr_told.mono _ _ _
   | exact congr_two.mono _ _ _ _ _
   | exact LeO.none _
   | refine LeO.ite ?_ ?_
   | refine LeO.bind ?_ (fun _ => ?_)
def congr_Join.T4 : Bool × List (List Nat × List Nat) := (true, [([], []), ([0], [0]), ([], []), ([2], [2]), ([], []), ([4], [4]), ([], []), ([6], [6]), ([], []), ([8], [8]), ([7, 9], [7, 9]), ([3, 5, 10], [3, 5, 10]), ([11], [11]), ([1, 12, 12], [1, 12]), ([13, 13, 0, 1, 2, 3, 4, 5, 6, 7, 8, 9, 10, 11, 12, 13], [13]), ([14, 0, 1, 2, 3, 4, 5, 6, 7, 8, 9, 10, 11, 12, 13, 14], [])])
def congr_Join.B4 : List Nat := [0, 1, 0, 4, 0, 16, 0, 64, 0, 256, 960, 2044, 4092, 8191, 16383, 32767]
theorem congr_Join.tab4 : rtab .any (opsOf Tryd.f25 4) = congr_Join.T4 := by kernel_rfl
theorem congr_Join.bits4 : waitsOk congr_Join.T4.2 congr_Join.B4 = true := by kernel_rfl
set_option maxHeartbeats 8000000 in
set_option maxRecDepth 100000 in
theorem congr_Join.calls [EA] (k : Nat) (a0_0 : Int) (a0_1 : Int) (a1_0 : Int) (a1_1 : Int) (r1 : Int) (r2 : Int) (r3 : Option Int) (w : World) (h : congr_Join.f k a0_0 a0_1 a1_0 a1_1 = some (r1, r2, r3)) (h2_ : ErrAt 2 1 w) (h3_ : ErrAt 3 0 w) :
  Calls Tryd.prog 25 #[.agg #[.int .i64 a0_0, .int .i64 a0_1], .agg #[.int .i64 a1_0, .int .i64 a1_1]] w fun e w' => e = .returned (.tuple #[.agg #[.int .i64 r1, .int .i64 r2], errW r3]) ∧ Below w.heap.size w w' := by
 have hE2 := am h2_
 clear h2_
 have hE3 := am h3_
 clear h3_
 have hu34 := Tryd.underlying34
 have hu28 := Tryd.underlying28
 have HB := am (Below.refl w.heap.size w)
 have H : ((congr_two.f k a0_0 a0_1 a1_0 a1_1).bind fun t170 => (if t170.isNone = true then ((congr_gcd.f k (([a0_1, a1_1, wrap64 (a0_0 - a1_0)] : List Int))).bind fun t175 => ((congr_told.f k a0_0 t175).bind fun bt176 => (some (bt176.1, bt176.2, none)))) else (some (0, 0, some (t170.getD 0))))) = some (r1, r2, r3) := h
 clear h
 replace H := Option.bind_eq_some_iff.mp H
 obtain ⟨t170, A30, H⟩ := H
 replace H : (if t170.isNone = true then ((congr_gcd.f k (([a0_1, a1_1, wrap64 (a0_0 - a1_0)] : List Int))).bind fun t175 => ((congr_told.f k a0_0 t175).bind fun bt176 => (some (bt176.1, bt176.2, none)))) else (some (0, 0, some (t170.getD 0)))) = some (r1, r2, r3) := H
 have A3 := am A30
 clear A30
 rcases t170 with _ | q171
 ·have H1 : ((congr_gcd.f k (([a0_1, a1_1, wrap64 (a0_0 - a1_0)] : List Int))).bind fun t175 => ((congr_told.f k a0_0 t175).bind fun bt176 => (some (bt176.1, bt176.2, none)))) = some (r1, r2, r3) := by rw [if_pos (show (none : Option Int).isNone = true by rfl)] at H; exact H
  clear H
  have H := H1
  clear H1
  try simp only [errW_none, errW_some]
  obtain ⟨y172, hy172⟩ : ∃ y_ : List Int, y_ = (([a0_1, a1_1, wrap64 (a0_0 - a1_0)] : List Int)) := ⟨_, rfl⟩
  replace H : ((congr_gcd.f k y172).bind fun t175 => ((congr_told.f k a0_0 t175).bind fun bt176 => (some (bt176.1, bt176.2, none)))) = some (r1, r2, r3) := by first | (rw [hy172]; with_reducible exact H) | (have H2_ := (Option.bind_some _ _).symm.trans H; rw [hy172]; with_reducible exact H2_) | (have H2_ := (Option.bind_some _ _).symm.trans H; with_reducible exact H2_) | with_reducible exact H | (rw [hy172]; exact H) | exact H
  have Ny172 := am hy172
  clear hy172
  replace H := Option.bind_eq_some_iff.mp H
  obtain ⟨t175, A40, H⟩ := H
  replace H : ((congr_told.f k a0_0 t175).bind fun bt176 => (some (bt176.1, bt176.2, none))) = some (r1, r2, r3) := H
  have A4 := am A40
  clear A40
  replace H := Option.bind_eq_some_iff.mp H
  obtain ⟨⟨t176, t177⟩, A50, H⟩ := H
  replace H : (some (t176, t177, none)) = some (r1, r2, r3) := H
  have A5 := am A50
  clear A50
  simp only [Option.some.injEq, Prod.mk.injEq] at H
  obtain ⟨rfl, rfl, rfl⟩ := H
  go_enter Tryd.func25, Tryd.ntmps25
  try go_wp2_with (first | ((with_reducible refine gate_dst (N := 2) rfl ?_); refine box_event ?hg (N := 2) ?hd (cs := #[.int .i64 a0_0, .int .i64 a0_1]) (t := 34) ?hr ?_; (case hd => rfl); (case hg => rfl); (case hr => first | (go_simp; done) | (go_simp; rfl)); intro gb167 hg w6 hbox hb; have n0_ := am (below_step pw hb); have n1_ := am (hbox); have n2_ := am ((by rw [hg]; exact (below_size pw) : w.heap.size ≤ gb167)); have n3_ := am ((by rw [hg]; exact (below_size pw) : w.heap.size ≤ gb167)); clear HB; have HB := n0_; have BK167 := n1_; have GW167 := n2_; have GE167 := n3_; clear n0_ n1_ n2_ n3_; clear hb hbox hg) | ((with_reducible refine gate_dst (N := 3) rfl ?_); refine box_event ?hg (N := 3) ?hd (cs := #[.int .i64 a1_0, .int .i64 a1_1]) (t := 34) ?hr ?_; (case hd => rfl); (case hg => rfl); (case hr => first | (go_simp; done) | (go_simp; rfl)); intro gb168 hg w7 hbox hb; have n0_ := bb BK167 hb; have n1_ := am (below_step pw hb); have n2_ := am (hbox); have n3_ := am ((by rw [hg]; exact (below_size pw) : w.heap.size ≤ gb168)); have n4_ := am ((by rw [hg]; exact (below_size pw) : w.heap.size ≤ gb168)); have n5_ := am ((by rw [hg]; exact Nat.ne_of_lt (blk_lt pk) : gb167 ≠ gb168)); have n6_ := am ((by rw [hg]; exact Nat.ne_of_gt (blk_lt pk) : gb168 ≠ gb167)); clear BK167; clear HB; have BK167 := n0_; have HB := n1_; have BK168 := n2_; have GW168 := n3_; have GE168 := n4_; have NB167_168 := n5_; have NB168_167 := n6_; clear n0_ n1_ n2_ n3_ n4_ n5_ n6_; clear hb hbox hg) | ((with_reducible refine gate_dst (N := 4) rfl ?_); refine box_event ?hg (N := 4) ?hd (cs := #[.int .i64 0, .int .i64 0]) (t := 34) ?hr ?_; (case hd => rfl); (case hg => rfl); (case hr => first | (go_simp; done) | (go_simp; rfl)); intro gb169 hg w8 hbox hb; have n0_ := bb BK167 hb; have n1_ := bb BK168 hb; have n2_ := am (below_step pw hb); have n3_ := am (hbox); have n4_ := am ((by rw [hg]; exact (below_size pw) : w.heap.size ≤ gb169)); have n5_ := am ((by rw [hg]; exact (below_size pw) : w.heap.size ≤ gb169)); have n6_ := am ((by rw [hg]; exact Nat.ne_of_lt (blk_lt pk) : gb167 ≠ gb169)); have n7_ := am ((by rw [hg]; exact Nat.ne_of_gt (blk_lt pk) : gb169 ≠ gb167)); have n8_ := am ((by rw [hg]; exact Nat.ne_of_lt (blk_lt pk) : gb168 ≠ gb169)); have n9_ := am ((by rw [hg]; exact Nat.ne_of_gt (blk_lt pk) : gb169 ≠ gb168)); clear BK167; clear BK168; clear HB; have BK167 := n0_; have BK168 := n1_; have HB := n2_; have BK169 := n3_; have GW169 := n4_; have GE169 := n5_; have NB167_169 := n6_; have NB169_167 := n7_; have NB168_169 := n8_; have NB169_168 := n9_; clear n0_ n1_ n2_ n3_ n4_ n5_ n6_ n7_ n8_ n9_; clear hb hbox hg; have hnb9 := NB167_168.out; have hnc9 := NB168_167.out; have hnb10 := NB167_169.out; have hnc10 := NB169_167.out; have hcz11_0 : w8.cell? ⟨gb167, 0, none⟩ = some (.int .i64 a0_0) := bc BK167 0; have hcz11_1 : w8.cell? ⟨gb167, 1, none⟩ = some (.int .i64 a0_1) := bc BK167 1; have hfz11_0 := blk_frozen BK167.out 0; have hfz11_1 := blk_frozen BK167.out 1; have hnb12 := NB168_169.out; have hnc12 := NB169_168.out; have hcz13_0 : w8.cell? ⟨gb168, 0, none⟩ = some (.int .i64 a1_0) := bc BK168 0; have hcz13_1 : w8.cell? ⟨gb168, 1, none⟩ = some (.int .i64 a1_1) := bc BK168 1; have hfz13_0 := blk_frozen BK168.out 0; have hfz13_1 := blk_frozen BK168.out 1) | ((with_reducible refine gate_callee (f := 56) rfl ?_); refine goesL_ (some 9) rfl rfl Tryd.func56 kk rfl #[.agg #[.int .i64 a0_0, .int .i64 a0_1], .agg #[.int .i64 a1_0, .int .i64 a1_1]] rfl (by (try simp only [List.map_toArray, List.map_cons, List.map_nil]); first | done | rfl | (simp only [List.length_drop, List.length_take]; rfl)) ?_; (with_reducible refine (congr_two.calls k a0_0 a0_1 a1_0 a1_1 none _ A3.out (am (ErrAt.below hE2.out pw)).out (am (ErrAt.below hE3.out pw)).out).mono ?_); rintro e w14 ⟨rfl, hb⟩; refine ⟨_, rfl, ?_⟩; have n0_ := bb BK167 hb; have n1_ := bb BK168 hb; have n2_ := bb BK169 hb; have n3_ := am (below_step pw hb); clear BK167; clear BK168; clear BK169; clear HB; have BK167 := n0_; have BK168 := n1_; have BK169 := n2_; have HB := n3_; clear n0_ n1_ n2_ n3_; (try clear hb); (try clear hb2); (try clear hk); (try clear hi); (try simp only [errW_none, errW_some])))
  have n0_ := am (blk_drew BK167.out)
  have n1_ := am (blk_drew BK168.out)
  have n2_ := am (blk_drew BK169.out)
  have n3_ := am (below_drew1 HB.out)
  clear BK167 BK168 BK169 HB
  revert n0_ n1_ n2_ n3_
  intro BK167 BK168 BK169 HB
  refine start_ (n := 16) (S := fun w' => w'.cell? ⟨gb167, 0, none⟩ = some (.int .i64 a0_0) ∧ w'.cell? ⟨gb167, 1, none⟩ = some (.int .i64 a0_1) ∧ w'.cell? ⟨gb168, 0, none⟩ = some (.int .i64 a1_0) ∧ w'.cell? ⟨gb168, 1, none⟩ = some (.int .i64 a1_1)) (ds := []) #[false, false, false, false, false, false, false, false, false, false, false, false, false, false, false, false] kk rfl rfl ⟨bc BK167 0, bc BK167 1, bc BK168 0, bc BK168 1⟩ (fun hHeld => ?_); refine with_tabW congr_Join.tab4 congr_Join.bits4 (fun HT_ HW_ => ?_)
  generalize w14.drew = w15 at BK167 BK168 BK169 HB hHeld ⊢
  refine pure_ (i := 0) (N := some 14) (v := ?_) (a' := ?_) #[true, false, false, false, false, false, false, false, false, false, false, false, false, false, false, false] rfl rfl (any_of HT_.out kk) (fun _ _ _ h => h) (Or.inl ⟨by rfl, ?_⟩) ?_ ?_
  rotate_left
  ·intro w'
   go_simp
   with_reducible rfl
  rotate_left
  ·simp only [Act.put, List.setIfInBounds_toArray, List.set_cons_zero, List.set_cons_succ, i64_w, i32_w]
   rfl
  refine pure_ (i := 2) (N := some 16) (v := ?_) (a' := ?_) #[true, false, true, false, false, false, false, false, false, false, false, false, false, false, false, false] rfl rfl (any_of HT_.out kk) (fun _ _ _ h => h) (Or.inl ⟨by rfl, ?_⟩) ?_ ?_
  rotate_left
  ·intro w'
   go_simp
   with_reducible rfl
  rotate_left
  ·simp only [Act.put, List.setIfInBounds_toArray, List.set_cons_zero, List.set_cons_succ, i64_w, i32_w]
   rfl
  refine pure_ (i := 4) (N := some 18) (v := ?_) (a' := ?_) #[true, false, true, false, true, false, false, false, false, false, false, false, false, false, false, false] rfl rfl (any_of HT_.out kk) (fun _ _ _ h => h) (Or.inl ⟨by rfl, ?_⟩) ?_ ?_
  rotate_left
  ·intro w'
   go_simp
   with_reducible rfl
  rotate_left
  ·simp only [Act.put, List.setIfInBounds_toArray, List.set_cons_zero, List.set_cons_succ, i64_w, i32_w]
   rfl
  refine pure_ (i := 6) (N := some 20) (v := ?_) (a' := ?_) #[true, false, true, false, true, false, true, false, false, false, false, false, false, false, false, false] rfl rfl (any_of HT_.out kk) (fun _ _ _ h => h) (Or.inl ⟨by rfl, ?_⟩) ?_ ?_
  rotate_left
  ·intro w'
   go_simp
   with_reducible rfl
  rotate_left
  ·simp only [Act.put, List.setIfInBounds_toArray, List.set_cons_zero, List.set_cons_succ, i64_w, i32_w]
   rfl
  refine pure_ (i := 8) (N := some 22) (v := ?_) (a' := ?_) #[true, false, true, false, true, false, true, false, true, false, false, false, false, false, false, false] rfl rfl (any_of HT_.out kk) (fun _ _ _ h => h) (Or.inl ⟨by rfl, ?_⟩) ?_ ?_
  rotate_left
  ·intro w'
   go_simp
   with_reducible rfl
  rotate_left
  ·simp only [Act.put, List.setIfInBounds_toArray, List.set_cons_zero, List.set_cons_succ, i64_w, i32_w]
   rfl
  refine take_ (i := 1) (N := some 15) (v := ?_) (a' := ?_) #[true, true, true, false, true, false, true, false, true, false, false, false, false, false, false, false] rfl rfl (take_ofW HT_.out HW_.out kk) (fun _ _ _ h => h) (Or.inl ⟨by rfl, ?_⟩) hHeld ?_ ?_
  rotate_left
  ·rintro w' ⟨s0, s1, s2, s3⟩
   go_simp
   with_reducible rfl
  rotate_left
  ·simp only [Act.put, List.setIfInBounds_toArray, List.set_cons_zero, List.set_cons_succ, i64_w, i32_w]
   rfl
  refine take_ (i := 3) (N := some 17) (v := ?_) (a' := ?_) #[true, true, true, true, true, false, true, false, true, false, false, false, false, false, false, false] rfl rfl (take_ofW HT_.out HW_.out kk) (fun _ _ _ h => h) (Or.inl ⟨by rfl, ?_⟩) hHeld ?_ ?_
  rotate_left
  ·rintro w' ⟨s0, s1, s2, s3⟩
   go_simp
   with_reducible rfl
  rotate_left
  ·simp only [Act.put, List.setIfInBounds_toArray, List.set_cons_zero, List.set_cons_succ, i64_w, i32_w]
   rfl
  refine take_ (i := 5) (N := some 19) (v := ?_) (a' := ?_) #[true, true, true, true, true, true, true, false, true, false, false, false, false, false, false, false] rfl rfl (take_ofW HT_.out HW_.out kk) (fun _ _ _ h => h) (Or.inl ⟨by rfl, ?_⟩) hHeld ?_ ?_
  rotate_left
  ·rintro w' ⟨s0, s1, s2, s3⟩
   go_simp
   with_reducible rfl
  rotate_left
  ·simp only [Act.put, List.setIfInBounds_toArray, List.set_cons_zero, List.set_cons_succ, i64_w, i32_w]
   rfl
  refine take_ (i := 7) (N := some 21) (v := ?_) (a' := ?_) #[true, true, true, true, true, true, true, true, true, false, false, false, false, false, false, false] rfl rfl (take_ofW HT_.out HW_.out kk) (fun _ _ _ h => h) (Or.inl ⟨by rfl, ?_⟩) hHeld ?_ ?_
  rotate_left
  ·rintro w' ⟨s0, s1, s2, s3⟩
   go_simp
   with_reducible rfl
  rotate_left
  ·simp only [Act.put, List.setIfInBounds_toArray, List.set_cons_zero, List.set_cons_succ, i64_w, i32_w]
   rfl
  refine take_ (i := 9) (N := some 23) (v := ?_) (a' := ?_) #[true, true, true, true, true, true, true, true, true, true, false, false, false, false, false, false] rfl rfl (take_ofW HT_.out HW_.out kk) (fun _ _ _ h => h) (Or.inl ⟨by rfl, ?_⟩) hHeld ?_ ?_
  rotate_left
  ·rintro w' ⟨s0, s1, s2, s3⟩
   go_simp
   with_reducible rfl
  rotate_left
  ·simp only [Act.put, List.setIfInBounds_toArray, List.set_cons_zero, List.set_cons_succ, i64_w, i32_w]
   rfl
  refine pure_ (i := 10) (N := some 24) (v := ?_) (a' := ?_) #[true, true, true, true, true, true, true, true, true, true, true, false, false, false, false, false] rfl rfl (any_of HT_.out kk) (fun _ _ _ h => h) (Or.inl ⟨by rfl, ?_⟩) ?_ ?_
  rotate_left
  ·intro w'
   go_simp
   with_reducible rfl
  rotate_left
  ·simp only [Act.put, List.setIfInBounds_toArray, List.set_cons_zero, List.set_cons_succ, i64_w, i32_w]
   rfl
  refine one_ (i := 11) (N := some 25) #[true, true, true, true, true, true, true, true, true, true, true, true, false, false, false, false] rfl rfl (one_of HT_.out kk) (by decide) (fun K hK => ?_)
  refine Kd.R_lit_step (Kd.int .i64) _ 3 ?hg (N := 25) ?hd (xs := ([a0_1, a1_1, wrap64 (a0_0 - a1_0)] : List Int)) (inner := [.int .i64 a0_1, .int .i64 a1_1, .int .i64 (wrap64 (a0_0 - a1_0))]) (ok := fun _ => True) (okp := fun _ => True) ?hr ?hp (fun _ hk => hk) trivial (Below.refl _ _) (Nat.le_refl _) (by simp) ?_; (case hd => rfl); (case hg => rfl); (case hr => first | (go_simp; done) | (go_simp; rfl)); (case hp => exact (Reps.one (show Kd.M (Kd.int .i64) _ _ _ a0_1 [.int .i64 a0_1] from rfl) (Reps.one (show Kd.M (Kd.int .i64) _ _ _ a1_1 [.int .i64 a1_1] from rfl) (Reps.one (show Kd.M (Kd.int .i64) _ _ _ (wrap64 (a0_0 - a1_0)) [.int .i64 (wrap64 (a0_0 - a1_0))] from rfl) (Reps.none _ _)))))
  intro v173 w16 ho17 hb hg_ hnew_
  clear hg_ hnew_
  (first | rw [← Ny172.out] at ho17 | (simp only [Int.reduceToNat] at ho17; rw [← Ny172.out] at ho17))
  have n0_ := am (Kd.R_lower ho17 (below_size pw))
  have n1_ := bb BK167 hb
  have n2_ := bb BK168 hb
  have n3_ := bb BK169 hb
  have n4_ := am (below_step pw hb)
  clear BK167 BK168 BK169 HB
  revert n0_ n1_ n2_ n3_ n4_
  intro HO174 BK167 BK168 BK169 HB
  clear hb ho17
  obtain ⟨Ao18, co18, eo18⟩ := Kd.R_slice HO174.out
  (first | subst eo18 | (injection eo18 with f1_ f2_ f3_; have f4_ := f1_.symm; have f5_ := f3_.symm; clear f1_ f2_ f3_; subst f4_; subst f5_))
  refine hK.out _ _ ⟨bc BK167 0, bc BK167 1, bc BK168 0, bc BK168 1⟩ (fun hHeld => ?_)
  clear hK K
  refine norm_ (a' := ?_) ?_ ?_
  rotate_left
  ·show Act.put _ (some 25) _ = _
   simp only [Act.put, List.setIfInBounds_toArray, List.set_cons_zero, List.set_cons_succ, i64_w, i32_w]
   rfl
  refine one_ (i := 12) (N := some 26) #[true, true, true, true, true, true, true, true, true, true, true, true, true, false, false, false] rfl rfl (one_of HT_.out kk) (by decide) (fun K hK => ?_)
  refine goes_ Tryd.func58 kk rfl #[.slice Ao18 y172.length co18] (by rfl) rfl rfl (by (try simp only [List.map_toArray, List.map_cons, List.map_nil]); first | done | rfl | (simp only [List.length_drop, List.length_take]; rfl)) ?_
  with_reducible refine (congr_gcd.calls k _ _ y172 t175 _ ?side1 ?side2 A4.out).mono ?_
  (case side1 => repeat (first | exact (Kd.R_reads' HO174.out).2.2 | (with_reducible refine Kd.C_alloc ?_ _) | (with_reducible refine Kd.C_drewN ?_ _) | (with_reducible refine Kd.C_drew ?_)))
  (case side2 => exact (Kd.R_reads' HO174.out).2.1)
  rintro e w19 ⟨rfl, hb⟩
  refine ⟨_, rfl, ?_⟩
  have n0_ := am (Kd.R_below (by (with_reducible repeat (first | apply Kd.R_alloc | apply Kd.R_drewN | apply Kd.R_drew)); exact HO174.out) hb)
  have n1_ := bb BK167 hb
  have n2_ := bb BK168 hb
  have n3_ := bb BK169 hb
  have n4_ := am (below_step pw hb)
  clear HO174 BK167 BK168 BK169 HB
  revert n0_ n1_ n2_ n3_ n4_
  intro HO174 BK167 BK168 BK169 HB
  (try clear hb)
  (try clear hb2)
  (try clear hk)
  (try clear hi)
  refine hK.out _ _ ⟨bc BK167 0, bc BK167 1, bc BK168 0, bc BK168 1⟩ (fun hHeld => ?_)
  clear hK K
  refine norm_ (a' := ?_) ?_ ?_
  rotate_left
  ·show Act.put _ (some 26) _ = _
   simp only [Act.put, List.setIfInBounds_toArray, List.set_cons_zero, List.set_cons_succ, i64_w, i32_w]
   rfl
  refine one_ (i := 13) (N := some 27) #[true, true, true, true, true, true, true, true, true, true, true, true, true, true, false, false] rfl rfl (one_of HT_.out kk) (by decide) (fun K hK => ?_)
  refine goes_ Tryd.func59 kk rfl #[.int .i64 a0_0, .int .i64 t175] (by rfl) rfl rfl (by (try simp only [List.map_toArray, List.map_cons, List.map_nil]); first | done | rfl | (simp only [List.length_drop, List.length_take]; rfl)) ?_
  with_reducible refine (congr_told.calls k a0_0 t175 t176 t177 _ A5.out).mono ?_
  rintro e w20 ⟨rfl, hb⟩
  refine ⟨_, rfl, ?_⟩
  have n0_ := am (Kd.R_below (by (with_reducible repeat (first | apply Kd.R_alloc | apply Kd.R_drewN | apply Kd.R_drew)); exact HO174.out) hb)
  have n1_ := bb BK167 hb
  have n2_ := bb BK168 hb
  have n3_ := bb BK169 hb
  have n4_ := am (below_step pw hb)
  clear HO174 BK167 BK168 BK169 HB
  revert n0_ n1_ n2_ n3_ n4_
  intro HO174 BK167 BK168 BK169 HB
  (try clear hb)
  (try clear hb2)
  (try clear hk)
  (try clear hi)
  refine hK.out _ _ ⟨bc BK167 0, bc BK167 1, bc BK168 0, bc BK168 1⟩ (fun hHeld => ?_)
  clear hK K
  refine norm_ (a' := ?_) ?_ ?_
  rotate_left
  ·show Act.put _ (some 27) _ = _
   simp only [Act.put, List.setIfInBounds_toArray, List.set_cons_zero, List.set_cons_succ, i64_w, i32_w]
   rfl
  refine one_ (i := 14) (N := none) #[true, true, true, true, true, true, true, true, true, true, true, true, true, true, true, false] rfl rfl (one_of HT_.out kk) (by decide) (fun K hK => ?_)
  have hs21 : w20.cell? ⟨gb169, 0, none⟩ = some (.int .i64 0) := bc BK169 0
  have hfs21 := blk_frozen BK169.out 0
  have hns21_0 := NB167_169.out
  have hns21_1 := NB168_169.out
  have hms21_0 := NB169_167.out
  have hms21_1 := NB169_168.out
  have hs22 : w20.cell? ⟨gb169, 1, none⟩ = some (.int .i64 0) := bc BK169 1
  have hfs22 := blk_frozen BK169.out 1
  have hns22_0 := NB167_169.out
  have hns22_1 := NB168_169.out
  have hms22_0 := NB169_167.out
  have hms22_1 := NB169_168.out
  refine skip_ (w1 := ?_) (by rfl) rfl ?_ ?_
  rotate_left
  ·go_simp
   rfl
  refine hK.out _ _ ⟨((cell_far (p := ⟨gb169, _, none⟩) NB167_169.out _).trans (((cell_far (p := ⟨gb169, _, none⟩) NB167_169.out _).trans (hHeld.1)))), ((cell_far (p := ⟨gb169, _, none⟩) NB167_169.out _).trans (((cell_far (p := ⟨gb169, _, none⟩) NB167_169.out _).trans (hHeld.2.1)))), ((cell_far (p := ⟨gb169, _, none⟩) NB168_169.out _).trans (((cell_far (p := ⟨gb169, _, none⟩) NB168_169.out _).trans (hHeld.2.2.1)))), ((cell_far (p := ⟨gb169, _, none⟩) NB168_169.out _).trans (((cell_far (p := ⟨gb169, _, none⟩) NB168_169.out _).trans (hHeld.2.2.2))))⟩ (fun hHeld => ?_)
  clear hK K
  refine pure_ (i := 15) (N := some 5) (v := ?_) (a' := ?_) #[true, true, true, true, true, true, true, true, true, true, true, true, true, true, true, true] rfl rfl (any_of HT_.out kk) (fun _ _ _ h => h) (Or.inl ⟨by rfl, ?_⟩) ?_ ?_
  rotate_left
  ·intro w'
   go_simp
   with_reducible rfl
  rotate_left
  ·simp only [Act.put, List.setIfInBounds_toArray, List.set_cons_zero, List.set_cons_succ, i64_w, i32_w]
   rfl
  refine done_ (done_of HT_.out kk) ?_
  try go_wp2
  refine bodyPost_ret (results_ct rfl _ _ gb169 34 #[.int .i64 t176, .int .i64 t177] (0, 0) _ rfl (by (with_reducible repeat (first | refine blk_drewN ?_ _ | refine blk_drew ?_ | refine blk_alloc ?_ _)); refine blk_put (cs := #[.int .i64 t176, .int .i64 0]) ?_ 1 _ rfl; (with_reducible repeat (first | refine blk_drewN ?_ _ | refine blk_drew ?_ | refine blk_alloc ?_ _)); refine blk_put (cs := #[.int .i64 0, .int .i64 0]) ?_ 0 _ rfl; (with_reducible repeat (first | refine blk_drewN ?_ _ | refine blk_drew ?_ | refine blk_alloc ?_ _)); exact BK169.out) Tryd.underlying34 rfl kk) rfl ?_
  exact ⟨pe, pw⟩
 have H1 : (some (0, 0, some q171)) = some (r1, r2, r3) := by rw [if_neg (show ¬ (some q171).isNone = true by simp)] at H; exact H
 clear H
 have H := H1
 clear H1
 try simp only [errW_none, errW_some]
 simp only [Option.some.injEq, Prod.mk.injEq] at H
 obtain ⟨rfl, rfl, rfl⟩ := H
 go_enter Tryd.func25, Tryd.ntmps25
 go_wp2_with (first | ((with_reducible refine gate_dst (N := 2) rfl ?_); refine box_event ?hg (N := 2) ?hd (cs := #[.int .i64 a0_0, .int .i64 a0_1]) (t := 34) ?hr ?_; (case hd => rfl); (case hg => rfl); (case hr => first | (go_simp; done) | (go_simp; rfl)); intro gb167 hg w23 hbox hb; have n0_ := am (below_step pw hb); have n1_ := am (hbox); have n2_ := am ((by rw [hg]; exact (below_size pw) : w.heap.size ≤ gb167)); have n3_ := am ((by rw [hg]; exact (below_size pw) : w.heap.size ≤ gb167)); clear HB; have HB := n0_; have BK167 := n1_; have GW167 := n2_; have GE167 := n3_; clear n0_ n1_ n2_ n3_; clear hb hbox hg) | ((with_reducible refine gate_dst (N := 3) rfl ?_); refine box_event ?hg (N := 3) ?hd (cs := #[.int .i64 a1_0, .int .i64 a1_1]) (t := 34) ?hr ?_; (case hd => rfl); (case hg => rfl); (case hr => first | (go_simp; done) | (go_simp; rfl)); intro gb168 hg w24 hbox hb; have n0_ := bb BK167 hb; have n1_ := am (below_step pw hb); have n2_ := am (hbox); have n3_ := am ((by rw [hg]; exact (below_size pw) : w.heap.size ≤ gb168)); have n4_ := am ((by rw [hg]; exact (below_size pw) : w.heap.size ≤ gb168)); have n5_ := am ((by rw [hg]; exact Nat.ne_of_lt (blk_lt pk) : gb167 ≠ gb168)); have n6_ := am ((by rw [hg]; exact Nat.ne_of_gt (blk_lt pk) : gb168 ≠ gb167)); clear BK167; clear HB; have BK167 := n0_; have HB := n1_; have BK168 := n2_; have GW168 := n3_; have GE168 := n4_; have NB167_168 := n5_; have NB168_167 := n6_; clear n0_ n1_ n2_ n3_ n4_ n5_ n6_; clear hb hbox hg) | ((with_reducible refine gate_dst (N := 4) rfl ?_); refine box_event ?hg (N := 4) ?hd (cs := #[.int .i64 0, .int .i64 0]) (t := 34) ?hr ?_; (case hd => rfl); (case hg => rfl); (case hr => first | (go_simp; done) | (go_simp; rfl)); intro gb169 hg w25 hbox hb; have n0_ := bb BK167 hb; have n1_ := bb BK168 hb; have n2_ := am (below_step pw hb); have n3_ := am (hbox); have n4_ := am ((by rw [hg]; exact (below_size pw) : w.heap.size ≤ gb169)); have n5_ := am ((by rw [hg]; exact (below_size pw) : w.heap.size ≤ gb169)); have n6_ := am ((by rw [hg]; exact Nat.ne_of_lt (blk_lt pk) : gb167 ≠ gb169)); have n7_ := am ((by rw [hg]; exact Nat.ne_of_gt (blk_lt pk) : gb169 ≠ gb167)); have n8_ := am ((by rw [hg]; exact Nat.ne_of_lt (blk_lt pk) : gb168 ≠ gb169)); have n9_ := am ((by rw [hg]; exact Nat.ne_of_gt (blk_lt pk) : gb169 ≠ gb168)); clear BK167; clear BK168; clear HB; have BK167 := n0_; have BK168 := n1_; have HB := n2_; have BK169 := n3_; have GW169 := n4_; have GE169 := n5_; have NB167_169 := n6_; have NB169_167 := n7_; have NB168_169 := n8_; have NB169_168 := n9_; clear n0_ n1_ n2_ n3_ n4_ n5_ n6_ n7_ n8_ n9_; clear hb hbox hg; have hnb26 := NB167_168.out; have hnc26 := NB168_167.out; have hnb27 := NB167_169.out; have hnc27 := NB169_167.out; have hcz28_0 : w25.cell? ⟨gb167, 0, none⟩ = some (.int .i64 a0_0) := bc BK167 0; have hcz28_1 : w25.cell? ⟨gb167, 1, none⟩ = some (.int .i64 a0_1) := bc BK167 1; have hfz28_0 := blk_frozen BK167.out 0; have hfz28_1 := blk_frozen BK167.out 1; have hnb29 := NB168_169.out; have hnc29 := NB169_168.out; have hcz30_0 : w25.cell? ⟨gb168, 0, none⟩ = some (.int .i64 a1_0) := bc BK168 0; have hcz30_1 : w25.cell? ⟨gb168, 1, none⟩ = some (.int .i64 a1_1) := bc BK168 1; have hfz30_0 := blk_frozen BK168.out 0; have hfz30_1 := blk_frozen BK168.out 1) | ((with_reducible refine gate_callee (f := 56) rfl ?_); refine goesL_ (some 9) rfl rfl Tryd.func56 kk rfl #[.agg #[.int .i64 a0_0, .int .i64 a0_1], .agg #[.int .i64 a1_0, .int .i64 a1_1]] rfl (by (try simp only [List.map_toArray, List.map_cons, List.map_nil]); first | done | rfl | (simp only [List.length_drop, List.length_take]; rfl)) ?_; (with_reducible refine (congr_two.calls k a0_0 a0_1 a1_0 a1_1 (some q171) _ A3.out (am (ErrAt.below hE2.out pw)).out (am (ErrAt.below hE3.out pw)).out).mono ?_); rintro e w31 ⟨rfl, hb⟩; refine ⟨_, rfl, ?_⟩; have n0_ := bb BK167 hb; have n1_ := bb BK168 hb; have n2_ := bb BK169 hb; have n3_ := am (below_step pw hb); clear BK167; clear BK168; clear BK169; clear HB; have BK167 := n0_; have BK168 := n1_; have BK169 := n2_; have HB := n3_; clear n0_ n1_ n2_ n3_; (try clear hb); (try clear hb2); (try clear hk); (try clear hi); (try simp only [errW_none, errW_some]); have hcz32_0 : w31.cell? ⟨gb169, 0, none⟩ = some (.int .i64 0) := bc BK169 0; have hcz32_1 : w31.cell? ⟨gb169, 1, none⟩ = some (.int .i64 0) := bc BK169 1; have hfz32_0 := blk_frozen BK169.out 0; have hfz32_1 := blk_frozen BK169.out 1))
 refine bodyPost_ret (results_ct rfl _ _ gb169 34 #[.int .i64 0, .int .i64 0] (0, 0) _ rfl (by (with_reducible repeat (first | refine blk_drewN ?_ _ | refine blk_drew ?_ | refine blk_alloc ?_ _)); refine blk_put (cs := #[.int .i64 0, .int .i64 0]) ?_ 1 _ rfl; (with_reducible repeat (first | refine blk_drewN ?_ _ | refine blk_drew ?_ | refine blk_alloc ?_ _)); refine blk_put (cs := #[.int .i64 0, .int .i64 0]) ?_ 0 _ rfl; (with_reducible repeat (first | refine blk_drewN ?_ _ | refine blk_drew ?_ | refine blk_alloc ?_ _)); exact BK169.out) Tryd.underlying34 rfl kk) rfl ?_
 exact ⟨pe, pw⟩

/-! ### R2_FirstOf: function 26 -/
def R2_FirstOf.l0 : Nat → Int → List Int → Int → Int → Int → Option (List Int)
 | 0, _, _, _, _, _ => none
 | k + 1, x1, x5, x6, x179000, x179001 => if x6 < x1 then (if x5.length < 17592186044416 then (R2_FirstOf.l0 k x1 (x5 ++ [wrap64 (x179000 + (wrap64 ((wrap64 (x6 - (wrap64 (Int.tdiv x1 2)))) * x179001)))]) (wrap64 (x6 + 1)) x179000 x179001) else (none)) else (some x5)
def R2_FirstOf.f (k : Nat) (a0_0 : Int) (a0_1 : Int) (a1 : Int) : Option (List Int) := R2_FirstOf.l0 k a1 ([] : List Int) 0 a0_0 a0_1
theorem R2_FirstOf.mono_l : ∀ k, (∀ y0 y1 y2 y3 y4, LeO (R2_FirstOf.l0 k y0 y1 y2 y3 y4) (R2_FirstOf.l0 (k + 1) y0 y1 y2 y3 y4))
 | 0 => fun _ _ _ _ _ r h => by simp [R2_FirstOf.l0] at h
 | k + 1 => by
  have ih0 := R2_FirstOf.mono_l k
  intro y0 y1 y2 y3 y4
  unfold R2_FirstOf.l0
  repeat' first
  | (with_reducible exact ih0 _ _ _ _ _)
  | (with_reducible exact LeO.refl _)
  | (with_reducible exact LeO.none _)
  | (with_reducible refine LeO.ite ?_ ?_)
  | (with_reducible refine LeO.bind ?_ (fun _ => ?_))
  | exact ih0 _ _ _ _ _
  | exact LeO.none _
  | refine LeO.ite ?_ ?_
  | refine LeO.bind ?_ (fun _ => ?_)
theorem R2_FirstOf.mono : ∀ a0 a1 a2 k, LeO (R2_FirstOf.f k a0 a1 a2) (R2_FirstOf.f (k + 1) a0 a1 a2) := by
 intro a0 a1 a2 k
 have ih0 := R2_FirstOf.mono_l k
 unfold R2_FirstOf.f
 repeat' first
   | (with_reducible exact ih0 _ _ _ _ _)
   | (with_reducible exact LeO.refl _)
   | (with_reducible exact LeO.none _)
   | (with_reducible refine LeO.ite ?_ ?_)
   | (with_reducible refine LeO.bind ?_ (fun _ => ?_))
   | exact ih0 _ _ _ _ _
   | exact LeO.none _
   | refine LeO.ite ?_ ?_
   | refine LeO.bind ?_ (fun _ => ?_)
set_option maxHeartbeats 8000000 in
set_option maxRecDepth 100000 in
theorem R2_FirstOf.calls [EA] (k : Nat) (a0_0 : Int) (a0_1 : Int) (a1 : Int) (r : List Int) (w : World) (h : R2_FirstOf.f k a0_0 a0_1 a1 = some r) :
  Calls Tryd.prog 26 #[.agg #[.int .i64 a0_0, .int .i64 a0_1], .int .i64 a1] w fun e w' => ∃ v0_ : Value, e = .returned (v0_) ∧ Kd.R (Kd.int .i64) 3 w' w.heap.size (fun _ => True) v0_ r ∧ Below w.heap.size w w' := by
 have hu32 := Tryd.underlying32
 have HB := am (Below.refl w.heap.size w)
 have H : (R2_FirstOf.l0 k a1 ([] : List Int) 0 a0_0 a0_1) = some r := h
 clear h
 have H' := am H
 clear H
 go_enter Tryd.func26, Tryd.ntmps26
 go_wp2_with (first | ((with_reducible refine gate_dst (N := 2) rfl ?_); refine box_event ?hg (N := 2) ?hd (cs := #[.int .i64 a0_0, .int .i64 a0_1]) (t := 32) ?hr ?_; (case hd => rfl); (case hg => rfl); (case hr => first | (go_simp; done) | (go_simp; rfl)); intro gb178 hg w3 hbox hb; have n0_ := am (below_step pw hb); have n1_ := am (hbox); have n2_ := am ((by rw [hg]; exact (below_size pw) : w.heap.size ≤ gb178)); have n3_ := am ((by rw [hg]; exact (below_size pw) : w.heap.size ≤ gb178)); clear HB; have HB := n0_; have BK178 := n1_; have GW178 := n2_; have GE178 := n3_; clear n0_ n1_ n2_ n3_; clear hb hbox hg))
 go_loopg [5, 6] k (fun kq v5 v6 w' => ∃ (x5_1 : List Int) (x6_1 : Int), v6 = .int .i64 x6_1 ∧ Aside0 (R2_FirstOf.l0 kq a1 x5_1 x6_1 a0_0 a0_1 = some r) ∧ Aside0 (kq ≤ k) ∧ Aside0 (Kd.R (Kd.int .i64) 3 w' w.heap.size (fun _ => True) v5 x5_1) ∧ Aside0 (w'.heap[gb178]? = some (.cells #[.int .i64 a0_0, .int .i64 a0_1] 32 (0, 0))) ∧ Aside0 (Below w.heap.size w w'))
 case atStart => exact ⟨(([] : List Int)), (0), pr, H', ⟨Nat.le_refl _⟩, ⟨by first | exact Kd.R_nil _ _ _ _ _ | exact Kd.N_nil _ _ _ _ _ | exact Kd.V_nil _ _ _ _ _ | exact Kd.Q_nil _ _ _ _ _ | exact Kd.S_nil _ _ _ _ _⟩, ⟨by (with_reducible repeat (first | refine blk_drewN ?_ _ | refine blk_drew ?_ | refine blk_alloc ?_ _)); exact BK178.out⟩, ⟨pw⟩⟩
 case round =>
  clear H'
  try clear c2
  try clear p2
  obtain ⟨x5_1, x6_1, rfl, HA, HK1, HO_5, BK178, HB⟩ := hrel
  cases gk with
  | zero => exact absurd HA.out (by simp [R2_FirstOf.l0])
  | succ k1 =>
   have H := HA.out
   clear HA
   simp only [R2_FirstOf.l0] at H
   by_cases c4 : x6_1 < a1
   ·rw [if_pos c4] at H
    have c4b0 : decide (x6_1 < a1) = true := decide_eq_true c4
    clear c4
    by_cases c5 : x5_1.length < 17592186044416
    ·rw [if_pos c5] at H
     have LMc5 := am c5
     clear c5
     obtain ⟨y179, hy179⟩ : ∃ y_ : List Int, y_ = (x5_1 ++ [wrap64 (a0_0 + (wrap64 ((wrap64 (x6_1 - (wrap64 (Int.tdiv a1 2)))) * a0_1)))]) := ⟨_, rfl⟩
     replace H : (R2_FirstOf.l0 k1 a1 y179 (wrap64 (x6_1 + 1)) a0_0 a0_1) = some r := by first | (rw [hy179]; with_reducible exact H) | (have H2_ := (Option.bind_some _ _).symm.trans H; rw [hy179]; with_reducible exact H2_) | (have H2_ := (Option.bind_some _ _).symm.trans H; with_reducible exact H2_) | with_reducible exact H | (rw [hy179]; exact H) | exact H
     have Ny179 := am hy179
     clear hy179
     have H' := am H
     clear H
     have hcz6_0 : wr.cell? ⟨gb178, 0, none⟩ = some (.int .i64 a0_0) := bc BK178 0
     have hcz6_1 : wr.cell? ⟨gb178, 1, none⟩ = some (.int .i64 a0_1) := bc BK178 1
     have hfz6_0 := blk_frozen BK178.out 0
     have hfz6_1 := blk_frozen BK178.out 1
     go_wp2_with (first | ((with_reducible refine gate_builtin (b := .append) (xs := #[.tmp 12, .tmp 23]) rfl ?_); at_builtin; refine Kd.R_append (Kd.int .i64) (w0 := w) w.heap.size rfl (.tmp 12) (.tmp 23) 40 3 (.int .i64 0) 8 rfl Tryd.underlying40 info3 rfl (by decide) (by omega) u5 x5_1 (wrap64 (a0_0 + (wrap64 ((wrap64 (x6_1 - (wrap64 (Int.tdiv a1 2)))) * a0_1)))) [.int .i64 (wrap64 (a0_0 + (wrap64 ((wrap64 (x6_1 - (wrap64 (Int.tdiv a1 2)))) * a0_1))))] (fun _ => True) (fun _ => False) rfl rfl ?aP (fun _ hk => hk.elim) ?aF ?aO ?aB ?aS ?aL ?_; (case aP => exact rfl); (case aB => exact pw); (case aF => exact (fun _ _ => trivial)); (case aO => exact (by (with_reducible repeat (first | apply Kd.R_alloc | apply Kd.R_drewN | apply Kd.R_drew)); exact HO_5.out)); (case aS => exact (below_size pw)); (case aL => have := LMc5.out; omega); intro v180 w7 ho hb hg hat; rw [← Ny179.out] at ho; have n0_ := am (blk_grown (g := gb178) (o := .cells #[.int .i64 a0_0, .int .i64 a0_1] 32 (0, 0)) pk hg (Kd.R_ne HO_5.out BK178.out (by decide))); have n1_ := am (hb); have n2_ := am (ho); clear BK178; clear HB; clear HO_5; have BK178 := n0_; have HB := n1_; have HO181 := n2_; clear n0_ n1_ n2_; clear ho hb hg hat))
     go_roundg k1
     case measure => have := HK1.out; omega
     case rel => exact ⟨(y179), (wrap64 (x6_1 + 1)), pr, H', ⟨by have := HK1.out; omega⟩, ⟨by (with_reducible repeat (first | apply Kd.R_alloc | apply Kd.R_drewN | apply Kd.R_drew)); exact HO181.out⟩, ⟨by (with_reducible repeat (first | refine blk_drewN ?_ _ | refine blk_drew ?_ | refine blk_alloc ?_ _)); exact BK178.out⟩, ⟨pw⟩⟩
    rw [if_neg c5] at H
    exact absurd H (by simp)
   rw [if_neg c4] at H
   have c4b0 : decide (x6_1 < a1) = false := decide_eq_false c4
   clear c4
   obtain rfl := Option.some.inj H
   go_wp2
   go_ret
   exact ⟨_, pe, by (with_reducible repeat (first | apply Kd.R_alloc | apply Kd.R_drewN | apply Kd.R_drew)); exact HO_5.out, pw⟩

end Go.Proofs.YtimgfgambeffeaaDoor.C
