import Derived.Test.YtcalcnfppnbooaaDoorIrEb
import Derived.Test.YtcalcnfppnbooaaDoorIrGa
import Derived.Test.YtcalcnfppnbooaaDoorIrR0
import Derived.Test.YtcalcnfppnbooaaDoorIrR1
-- Written by wip/xprint.py (the session's program over the kit's print).
namespace Go.Proofs.YtcalcnfppnbooaaDoor.R
open Go.RowKit Go.Proofs.YtcalcnfppnbooaaDoorW.PrintWords Go.Proofs.YtcalcnfppnbooaaDoorW.PrintLast Go.Proofs.YtcalcnfppnbooaaDoorW.PrintMore Go.Proofs.Rcg
attribute [local go_sem] max2_int min2_int max_two min_two max_three min_three max_four min_four   -- for this text's walks alone
set_option linter.unusedVariables false
set_option linter.unusedSimpArgs false

attribute [local go_sem high] eqA49
/-! ### interval_far: function 146 -/
def interval_far.f (a0 : Int) : Option (Bool) := if a0 > 1099511627776 then (some true) else (some (decide (a0 < (-1099511627776))))
set_option maxHeartbeats 8000000 in
set_option maxRecDepth 100000 in
theorem interval_far.calls [EA] (a0 : Int) (r : Bool) (w : World) (h : interval_far.f a0 = some r) :
  Calls Tryd.prog 146 #[.int .i64 a0] w fun e w' => e = .returned (.bool r) ∧ Drawn0 w w' := by
 have H : (if a0 > 1099511627776 then (some true) else (some (decide (a0 < (-1099511627776))))) = some r := h
 clear h
 by_cases c2 : a0 > 1099511627776
 ·rw [if_pos c2] at H
  have c2b0 : decide (1099511627776 < a0) = true := decide_eq_true c2
  clear c2
  obtain rfl := Option.some.inj H
  go_enter Tryd.func146, Tryd.ntmps146
  go_wp2
  go_ret
  exact ⟨by first | rfl | (simp; done) | (simp [*]; done), by repeat (first | exact Drawn0.refl _ | apply Drawn0.step)⟩
 rw [if_neg c2] at H
 have c2b0 : decide (1099511627776 < a0) = false := decide_eq_false c2
 clear c2
 obtain rfl := Option.some.inj H
 go_enter Tryd.func146, Tryd.ntmps146
 go_wp2
 go_ret
 exact ⟨by first | rfl | (simp; done) | (simp [*]; done), by repeat (first | exact Drawn0.refl _ | apply Drawn0.step)⟩

/-! ### interval_Valid: function 132 -/
def interval_Valid.j0 : Nat → Bool → Bool → Bool → Int → Int → Option (Option Int)
 | 0, _, _, _, _, _ => none
 | k + 1, x35, x102000, x102001, x102002, x102003 => if x35 = true then (some (some 3)) else ((interval_far.f x102002).bind fun t102 => (if t102 = true then (some (some 2)) else ((interval_far.f x102003).bind fun t103 => (if t103 = true then (some (some 2)) else (some none)))))
def interval_Valid.f (k : Nat) (a0_0 : Bool) (a0_1 : Bool) (a0_2 : Int) (a0_3 : Int) : Option (Option Int) := if a0_0 = true then (if a0_2 = 0 then (if a0_1 = true then (if a0_3 = 0 then (interval_Valid.j0 k false a0_0 a0_1 a0_2 a0_3) else (interval_Valid.j0 k true a0_0 a0_1 a0_2 a0_3)) else (interval_Valid.j0 k false a0_0 a0_1 a0_2 a0_3)) else (interval_Valid.j0 k true a0_0 a0_1 a0_2 a0_3)) else (if a0_1 = true then (if a0_3 = 0 then (interval_Valid.j0 k false a0_0 a0_1 a0_2 a0_3) else (interval_Valid.j0 k true a0_0 a0_1 a0_2 a0_3)) else (interval_Valid.j0 k (decide (a0_2 > a0_3)) a0_0 a0_1 a0_2 a0_3))
theorem interval_Valid.mono_l : ∀ k, (∀ y0 y1 y2 y3 y4, LeO (interval_Valid.j0 k y0 y1 y2 y3 y4) (interval_Valid.j0 (k + 1) y0 y1 y2 y3 y4))
 | 0 => fun _ _ _ _ _ r h => by simp [interval_Valid.j0] at h
 | k + 1 => by
  have ih0 := interval_Valid.mono_l k
  intro y0 y1 y2 y3 y4
  unfold interval_Valid.j0
  repeat' first
  | (with_reducible exact ih0 _ _ _ _ _)
  | (with_reducible exact LeO.refl _)
  | (with_reducible exact LeO.none _)
  | (with_reducible refine LeO.ite ?_ ?_)
  | (with_reducible refine LeO.bind ?_ (fun _ => ?_))
  | exact ih0 _ _ _ _ _
  | exact LeO.none _
  | refine LeO.ite ?_ ?_
  | refine LeO.bind ?_ (fun _ => ?_)
theorem interval_Valid.mono : ∀ a0 a1 a2 a3 k, LeO (interval_Valid.f k a0 a1 a2 a3) (interval_Valid.f (k + 1) a0 a1 a2 a3) := by
 intro a0 a1 a2 a3 k
 have ih0 := interval_Valid.mono_l k
 unfold interval_Valid.f
 repeat' first
   | (with_reducible exact ih0 _ _ _ _ _)
   | (with_reducible exact LeO.refl _)
   | (with_reducible exact LeO.none _)
   | (with_reducible refine LeO.ite ?_ ?_)
   | (with_reducible refine LeO.bind ?_ (fun _ => ?_))
   | exact ih0 _ _ _ _ _
   | exact LeO.none _
   | refine LeO.ite ?_ ?_
   | refine LeO.bind ?_ (fun _ => ?_)
set_option maxHeartbeats 8000000 in
set_option maxRecDepth 100000 in
theorem interval_Valid.calls [EA] (k : Nat) (a0_0 : Bool) (a0_1 : Bool) (a0_2 : Int) (a0_3 : Int) (r : Option Int) (w : World) (h : interval_Valid.f k a0_0 a0_1 a0_2 a0_3 = some r) (h2_ : ErrAt 2 1 w) (h3_ : ErrAt 3 0 w) :
  Calls Tryd.prog 132 #[.agg #[.bool a0_0, .bool a0_1, .int .i64 a0_2, .int .i64 a0_3]] w fun e w' => e = .returned (errW r) ∧ Below w.heap.size w w' := by
 have hE2 := am h2_
 clear h2_
 have hE3 := am h3_
 clear h3_
 have hu49 := Tryd.underlying49
 have HB := am (Below.refl w.heap.size w)
 have H : (if a0_0 = true then (if a0_2 = 0 then (if a0_1 = true then (if a0_3 = 0 then (interval_Valid.j0 k false a0_0 a0_1 a0_2 a0_3) else (interval_Valid.j0 k true a0_0 a0_1 a0_2 a0_3)) else (interval_Valid.j0 k false a0_0 a0_1 a0_2 a0_3)) else (interval_Valid.j0 k true a0_0 a0_1 a0_2 a0_3)) else (if a0_1 = true then (if a0_3 = 0 then (interval_Valid.j0 k false a0_0 a0_1 a0_2 a0_3) else (interval_Valid.j0 k true a0_0 a0_1 a0_2 a0_3)) else (interval_Valid.j0 k (decide (a0_2 > a0_3)) a0_0 a0_1 a0_2 a0_3))) = some r := h
 clear h
 have HC2 := am H
 clear H
 go_enter Tryd.func132, Tryd.ntmps132
 go_upto_region 1 with (first | ((with_reducible refine gate_dst (N := 1) rfl ?_); refine box_event ?hg (N := 1) ?hd (cs := #[.bool a0_0, .bool a0_1, .int .i64 a0_2, .int .i64 a0_3]) (t := 49) ?hr ?_; (case hd => rfl); (case hg => rfl); (case hr => first | (go_simp; done) | (go_simp; rfl)); intro gb101 hg w3 hbox hb; have n0_ := am (below_step pw hb); have n1_ := am (hbox); have n2_ := am ((by rw [hg]; exact (below_size pw) : w.heap.size ≤ gb101)); have n3_ := am ((by rw [hg]; exact (below_size pw) : w.heap.size ≤ gb101)); clear HB; have HB := n0_; have BK101 := n1_; have GW101 := n2_; have GE101 := n3_; clear n0_ n1_ n2_ n3_; clear hb hbox hg))
 (try simp only [Act.put, List.setIfInBounds_toArray, List.set_cons_zero, List.set_cons_succ])
 go_cut [35] (fun v35 wc => ∃ (kq : Nat) (x35_1 : Bool), v35 = .bool x35_1 ∧ Aside0 (interval_Valid.j0 kq x35_1 a0_0 a0_1 a0_2 a0_3 = some r) ∧ Aside0 (kq ≤ k) ∧ Aside0 (wc.heap[gb101]? = some (.cells #[.bool a0_0, .bool a0_1, .int .i64 a0_2, .int .i64 a0_3] 49 (0, 0))) ∧ Aside0 (Below w.heap.size w wc))
 case first =>
  have H := HC2.out
  clear HC2
  by_cases c4 : a0_0 = true
  ·subst c4
   have H1 : (if a0_2 = 0 then (if a0_1 = true then (if a0_3 = 0 then (interval_Valid.j0 k false true a0_1 a0_2 a0_3) else (interval_Valid.j0 k true true a0_1 a0_2 a0_3)) else (interval_Valid.j0 k false true a0_1 a0_2 a0_3)) else (interval_Valid.j0 k true true a0_1 a0_2 a0_3)) = some r := by rw [if_pos rfl] at H; exact H
   clear H
   have H := H1
   clear H1
   by_cases c5 : a0_2 = 0
   ·rw [if_pos c5] at H
    have c5b0 : (a0_2 == 0) = true := beq_iff_eq.mpr c5
    have c5b1 : (a0_2 != 0) = false := bne_eq_false_iff_eq.mpr c5
    clear c5
    (first | rw [c5b0] | (simp only [i64_w, i32_w]; rw [c5b0]) | skip)
    by_cases c6 : a0_1 = true
    ·subst c6
     have H1 : (if a0_3 = 0 then (interval_Valid.j0 k false true true a0_2 a0_3) else (interval_Valid.j0 k true true true a0_2 a0_3)) = some r := by rw [if_pos rfl] at H; exact H
     clear H
     have H := H1
     clear H1
     by_cases c7 : a0_3 = 0
     ·rw [if_pos c7] at H
      have c7b0 : (a0_3 == 0) = true := beq_iff_eq.mpr c7
      have c7b1 : (a0_3 != 0) = false := bne_eq_false_iff_eq.mpr c7
      clear c7
      have H' := am H
      clear H
      have hcz8_0 : w3.cell? ⟨gb101, 0, none⟩ = some (.bool true) := bc BK101 0
      have hcz8_1 : w3.cell? ⟨gb101, 1, none⟩ = some (.bool true) := bc BK101 1
      have hcz8_2 : w3.cell? ⟨gb101, 2, none⟩ = some (.int .i64 a0_2) := bc BK101 2
      have hcz8_3 : w3.cell? ⟨gb101, 3, none⟩ = some (.int .i64 a0_3) := bc BK101 3
      have hfz8_0 := blk_frozen BK101.out 0
      have hfz8_1 := blk_frozen BK101.out 1
      have hfz8_2 := blk_frozen BK101.out 2
      have hfz8_3 := blk_frozen BK101.out 3
      go_wp2
      go_meet
      case rel => exact ⟨_, (false), pr, H', ⟨by first | omega | exact Nat.le_refl _⟩, ⟨pk⟩, ⟨pw⟩⟩
     rw [if_neg c7] at H
     have c7b0 : (a0_3 == 0) = false := beq_eq_false_iff_ne.mpr c7
     have c7b1 : (a0_3 != 0) = true := bne_iff_ne.mpr c7
     have H' := am H
     clear H
     have hcz9_0 : w3.cell? ⟨gb101, 0, none⟩ = some (.bool true) := bc BK101 0
     have hcz9_1 : w3.cell? ⟨gb101, 1, none⟩ = some (.bool true) := bc BK101 1
     have hcz9_2 : w3.cell? ⟨gb101, 2, none⟩ = some (.int .i64 a0_2) := bc BK101 2
     have hcz9_3 : w3.cell? ⟨gb101, 3, none⟩ = some (.int .i64 a0_3) := bc BK101 3
     have hfz9_0 := blk_frozen BK101.out 0
     have hfz9_1 := blk_frozen BK101.out 1
     have hfz9_2 := blk_frozen BK101.out 2
     have hfz9_3 := blk_frozen BK101.out 3
     go_wp2
     go_meet
     case rel => exact ⟨_, (true), pr, H', ⟨by first | omega | exact Nat.le_refl _⟩, ⟨pk⟩, ⟨pw⟩⟩
    replace c6 := Bool.eq_false_iff.mpr c6
    subst c6
    have H1 : (interval_Valid.j0 k false true false a0_2 a0_3) = some r := by rw [if_neg (show ¬ (false = true) by decide)] at H; exact H
    clear H
    have H := H1
    clear H1
    have H' := am H
    clear H
    have hcz10_0 : w3.cell? ⟨gb101, 0, none⟩ = some (.bool true) := bc BK101 0
    have hcz10_1 : w3.cell? ⟨gb101, 1, none⟩ = some (.bool false) := bc BK101 1
    have hcz10_2 : w3.cell? ⟨gb101, 2, none⟩ = some (.int .i64 a0_2) := bc BK101 2
    have hcz10_3 : w3.cell? ⟨gb101, 3, none⟩ = some (.int .i64 a0_3) := bc BK101 3
    have hfz10_0 := blk_frozen BK101.out 0
    have hfz10_1 := blk_frozen BK101.out 1
    have hfz10_2 := blk_frozen BK101.out 2
    have hfz10_3 := blk_frozen BK101.out 3
    go_wp2
    go_meet
    case rel => exact ⟨_, (false), pr, H', ⟨by first | omega | exact Nat.le_refl _⟩, ⟨pk⟩, ⟨pw⟩⟩
   rw [if_neg c5] at H
   have c5b0 : (a0_2 == 0) = false := beq_eq_false_iff_ne.mpr c5
   have c5b1 : (a0_2 != 0) = true := bne_iff_ne.mpr c5
   (first | rw [c5b0] | (simp only [i64_w, i32_w]; rw [c5b0]) | skip)
   have H' := am H
   clear H
   have hcz11_0 : w3.cell? ⟨gb101, 0, none⟩ = some (.bool true) := bc BK101 0
   have hcz11_1 : w3.cell? ⟨gb101, 1, none⟩ = some (.bool a0_1) := bc BK101 1
   have hcz11_2 : w3.cell? ⟨gb101, 2, none⟩ = some (.int .i64 a0_2) := bc BK101 2
   have hcz11_3 : w3.cell? ⟨gb101, 3, none⟩ = some (.int .i64 a0_3) := bc BK101 3
   have hfz11_0 := blk_frozen BK101.out 0
   have hfz11_1 := blk_frozen BK101.out 1
   have hfz11_2 := blk_frozen BK101.out 2
   have hfz11_3 := blk_frozen BK101.out 3
   go_wp2
   go_meet
   case rel => exact ⟨_, (true), pr, H', ⟨by first | omega | exact Nat.le_refl _⟩, ⟨pk⟩, ⟨pw⟩⟩
  replace c4 := Bool.eq_false_iff.mpr c4
  subst c4
  have H1 : (if a0_1 = true then (if a0_3 = 0 then (interval_Valid.j0 k false false a0_1 a0_2 a0_3) else (interval_Valid.j0 k true false a0_1 a0_2 a0_3)) else (interval_Valid.j0 k (decide (a0_2 > a0_3)) false a0_1 a0_2 a0_3)) = some r := by rw [if_neg (show ¬ (false = true) by decide)] at H; exact H
  clear H
  have H := H1
  clear H1
  by_cases c12 : a0_1 = true
  ·subst c12
   have H1 : (if a0_3 = 0 then (interval_Valid.j0 k false false true a0_2 a0_3) else (interval_Valid.j0 k true false true a0_2 a0_3)) = some r := by rw [if_pos rfl] at H; exact H
   clear H
   have H := H1
   clear H1
   by_cases c13 : a0_3 = 0
   ·rw [if_pos c13] at H
    have c13b0 : (a0_3 == 0) = true := beq_iff_eq.mpr c13
    have c13b1 : (a0_3 != 0) = false := bne_eq_false_iff_eq.mpr c13
    clear c13
    have H' := am H
    clear H
    have hcz14_0 : w3.cell? ⟨gb101, 0, none⟩ = some (.bool false) := bc BK101 0
    have hcz14_1 : w3.cell? ⟨gb101, 1, none⟩ = some (.bool true) := bc BK101 1
    have hcz14_2 : w3.cell? ⟨gb101, 2, none⟩ = some (.int .i64 a0_2) := bc BK101 2
    have hcz14_3 : w3.cell? ⟨gb101, 3, none⟩ = some (.int .i64 a0_3) := bc BK101 3
    have hfz14_0 := blk_frozen BK101.out 0
    have hfz14_1 := blk_frozen BK101.out 1
    have hfz14_2 := blk_frozen BK101.out 2
    have hfz14_3 := blk_frozen BK101.out 3
    go_wp2
    go_meet
    case rel => exact ⟨_, (false), pr, H', ⟨by first | omega | exact Nat.le_refl _⟩, ⟨pk⟩, ⟨pw⟩⟩
   rw [if_neg c13] at H
   have c13b0 : (a0_3 == 0) = false := beq_eq_false_iff_ne.mpr c13
   have c13b1 : (a0_3 != 0) = true := bne_iff_ne.mpr c13
   have H' := am H
   clear H
   have hcz15_0 : w3.cell? ⟨gb101, 0, none⟩ = some (.bool false) := bc BK101 0
   have hcz15_1 : w3.cell? ⟨gb101, 1, none⟩ = some (.bool true) := bc BK101 1
   have hcz15_2 : w3.cell? ⟨gb101, 2, none⟩ = some (.int .i64 a0_2) := bc BK101 2
   have hcz15_3 : w3.cell? ⟨gb101, 3, none⟩ = some (.int .i64 a0_3) := bc BK101 3
   have hfz15_0 := blk_frozen BK101.out 0
   have hfz15_1 := blk_frozen BK101.out 1
   have hfz15_2 := blk_frozen BK101.out 2
   have hfz15_3 := blk_frozen BK101.out 3
   go_wp2
   go_meet
   case rel => exact ⟨_, (true), pr, H', ⟨by first | omega | exact Nat.le_refl _⟩, ⟨pk⟩, ⟨pw⟩⟩
  replace c12 := Bool.eq_false_iff.mpr c12
  subst c12
  have H1 : (interval_Valid.j0 k (decide (a0_2 > a0_3)) false false a0_2 a0_3) = some r := by rw [if_neg (show ¬ (false = true) by decide)] at H; exact H
  clear H
  have H := H1
  clear H1
  have H' := am H
  clear H
  have hcz16_0 : w3.cell? ⟨gb101, 0, none⟩ = some (.bool false) := bc BK101 0
  have hcz16_1 : w3.cell? ⟨gb101, 1, none⟩ = some (.bool false) := bc BK101 1
  have hcz16_2 : w3.cell? ⟨gb101, 2, none⟩ = some (.int .i64 a0_2) := bc BK101 2
  have hcz16_3 : w3.cell? ⟨gb101, 3, none⟩ = some (.int .i64 a0_3) := bc BK101 3
  have hfz16_0 := blk_frozen BK101.out 0
  have hfz16_1 := blk_frozen BK101.out 1
  have hfz16_2 := blk_frozen BK101.out 2
  have hfz16_3 := blk_frozen BK101.out 3
  go_wp2
  go_meet
  case rel => exact ⟨_, (decide (a0_2 > a0_3)), pr, H', ⟨by first | omega | exact Nat.le_refl _⟩, ⟨pk⟩, ⟨pw⟩⟩
 clear HC2
 try clear c1
 try clear p2
 try clear c4
 try clear c5
 try clear c5b0
 try clear c5b1
 try clear c6
 try clear c7
 try clear c7b0
 try clear c7b1
 try clear c12
 try clear c13
 try clear c13b0
 try clear c13b1
 try clear hcz10_0
 try clear hcz10_1
 try clear hcz10_2
 try clear hcz10_3
 try clear hcz11_0
 try clear hcz11_1
 try clear hcz11_2
 try clear hcz11_3
 try clear hcz14_0
 try clear hcz14_1
 try clear hcz14_2
 try clear hcz14_3
 try clear hcz15_0
 try clear hcz15_1
 try clear hcz15_2
 try clear hcz15_3
 try clear hcz16_0
 try clear hcz16_1
 try clear hcz16_2
 try clear hcz16_3
 try clear hcz8_0
 try clear hcz8_1
 try clear hcz8_2
 try clear hcz8_3
 try clear hcz9_0
 try clear hcz9_1
 try clear hcz9_2
 try clear hcz9_3
 try clear hfz10_0
 try clear hfz10_1
 try clear hfz10_2
 try clear hfz10_3
 try clear hfz11_0
 try clear hfz11_1
 try clear hfz11_2
 try clear hfz11_3
 try clear hfz14_0
 try clear hfz14_1
 try clear hfz14_2
 try clear hfz14_3
 try clear hfz15_0
 try clear hfz15_1
 try clear hfz15_2
 try clear hfz15_3
 try clear hfz16_0
 try clear hfz16_1
 try clear hfz16_2
 try clear hfz16_3
 try clear hfz8_0
 try clear hfz8_1
 try clear hfz8_2
 try clear hfz8_3
 try clear hfz9_0
 try clear hfz9_1
 try clear hfz9_2
 try clear hfz9_3
 obtain ⟨kq, x35_1, rfl, HA, HJ1, BK101, HB⟩ := hcut
 cases kq with
 | zero => exact absurd HA.out (by simp [interval_Valid.j0])
 | succ kj1 =>
  have H := HA.out
  clear HA
  simp only [interval_Valid.j0] at H
  by_cases c17 : x35_1 = true
  ·subst c17
   have H1 : (some (some 3)) = some r := by rw [if_pos rfl] at H; exact H
   clear H
   have H := H1
   clear H1
   obtain rfl := Option.some.inj H
   have hgmx1 : 0 < w.heap.size := ErrAt.lt hE3.out
   have hglx1 : wc.cell? ⟨0, 0, none⟩ = some (.iface 210 (.pointer (some (EA.adr 3)))) := (ErrAt.below hE3.out HB.out).cell
   have hgnx1 : 0 < wc.heap.size := World.block_lt_of_cell? _ _ hglx1
   have hgbx1_101 := Nat.ne_of_lt (Nat.lt_of_lt_of_le hgmx1 GE101.out)
   have hgcx1_101 := Nat.ne_of_gt (Nat.lt_of_lt_of_le hgmx1 GE101.out)
   go_wp2
   go_ret
   exact ⟨pe, pw⟩
  replace c17 := Bool.eq_false_iff.mpr c17
  subst c17
  have H1 : ((interval_far.f a0_2).bind fun t102 => (if t102 = true then (some (some 2)) else ((interval_far.f a0_3).bind fun t103 => (if t103 = true then (some (some 2)) else (some none))))) = some r := by rw [if_neg (show ¬ (false = true) by decide)] at H; exact H
  clear H
  have H := H1
  clear H1
  replace H := Option.bind_eq_some_iff.mp H
  obtain ⟨t102, A180, H⟩ := H
  replace H : (if t102 = true then (some (some 2)) else ((interval_far.f a0_3).bind fun t103 => (if t103 = true then (some (some 2)) else (some none)))) = some r := H
  have A18 := am A180
  clear A180
  by_cases c19 : t102 = true
  ·subst c19
   have H1 : (some (some 2)) = some r := by rw [if_pos rfl] at H; exact H
   clear H
   have H := H1
   clear H1
   obtain rfl := Option.some.inj H
   have hcz20_0 : wc.cell? ⟨gb101, 0, none⟩ = some (.bool a0_0) := bc BK101 0
   have hcz20_1 : wc.cell? ⟨gb101, 1, none⟩ = some (.bool a0_1) := bc BK101 1
   have hcz20_2 : wc.cell? ⟨gb101, 2, none⟩ = some (.int .i64 a0_2) := bc BK101 2
   have hcz20_3 : wc.cell? ⟨gb101, 3, none⟩ = some (.int .i64 a0_3) := bc BK101 3
   have hfz20_0 := blk_frozen BK101.out 0
   have hfz20_1 := blk_frozen BK101.out 1
   have hfz20_2 := blk_frozen BK101.out 2
   have hfz20_3 := blk_frozen BK101.out 3
   go_wp2_with (first | ((with_reducible refine gate_callee (f := 146) rfl ?_); refine goesL_ (some 39) rfl rfl Tryd.func146 kk rfl #[.int .i64 a0_2] rfl (by (try simp only [List.map_toArray, List.map_cons, List.map_nil]); first | done | rfl | (simp only [List.length_drop, List.length_take]; rfl)) ?_; (with_reducible refine (interval_far.calls a0_2 true _ A18.out).mono ?_); rintro e w' ⟨rfl, ⟨nd, rfl⟩⟩; refine ⟨_, rfl, ?_⟩; have hgmx2 : 1 < w.heap.size := ErrAt.lt hE2.out; have hglx2 : wc.cell? ⟨1, 0, none⟩ = some (.iface 210 (.pointer (some (EA.adr 2)))) := (ErrAt.below hE2.out HB.out).cell; have hgnx2 : 1 < wc.heap.size := World.block_lt_of_cell? _ _ hglx2; have hgbx2_101 := Nat.ne_of_lt (Nat.lt_of_lt_of_le hgmx2 GE101.out); have hgcx2_101 := Nat.ne_of_gt (Nat.lt_of_lt_of_le hgmx2 GE101.out)))
   go_ret
   exact ⟨pe, pw⟩
  replace c19 := Bool.eq_false_iff.mpr c19
  subst c19
  have H1 : ((interval_far.f a0_3).bind fun t103 => (if t103 = true then (some (some 2)) else (some none))) = some r := by rw [if_neg (show ¬ (false = true) by decide)] at H; exact H
  clear H
  have H := H1
  clear H1
  replace H := Option.bind_eq_some_iff.mp H
  obtain ⟨t103, A210, H⟩ := H
  replace H : (if t103 = true then (some (some 2)) else (some none)) = some r := H
  have A21 := am A210
  clear A210
  by_cases c22 : t103 = true
  ·subst c22
   have H1 : (some (some 2)) = some r := by rw [if_pos rfl] at H; exact H
   clear H
   have H := H1
   clear H1
   obtain rfl := Option.some.inj H
   have hcz23_0 : wc.cell? ⟨gb101, 0, none⟩ = some (.bool a0_0) := bc BK101 0
   have hcz23_1 : wc.cell? ⟨gb101, 1, none⟩ = some (.bool a0_1) := bc BK101 1
   have hcz23_2 : wc.cell? ⟨gb101, 2, none⟩ = some (.int .i64 a0_2) := bc BK101 2
   have hcz23_3 : wc.cell? ⟨gb101, 3, none⟩ = some (.int .i64 a0_3) := bc BK101 3
   have hfz23_0 := blk_frozen BK101.out 0
   have hfz23_1 := blk_frozen BK101.out 1
   have hfz23_2 := blk_frozen BK101.out 2
   have hfz23_3 := blk_frozen BK101.out 3
   go_wp2_with (first | ((with_reducible refine gate_callee (f := 146) rfl ?_); refine goesL_ (some 39) rfl rfl Tryd.func146 kk rfl #[.int .i64 a0_2] rfl (by (try simp only [List.map_toArray, List.map_cons, List.map_nil]); first | done | rfl | (simp only [List.length_drop, List.length_take]; rfl)) ?_; (with_reducible refine (interval_far.calls a0_2 false _ A18.out).mono ?_); rintro e w' ⟨rfl, ⟨nd, rfl⟩⟩; refine ⟨_, rfl, ?_⟩) | (go_at_call 146; (with_reducible refine (interval_far.calls a0_3 true _ A21.out).mono ?_); rintro e w' ⟨rfl, ⟨nd, rfl⟩⟩; have hgmx3 : 1 < w.heap.size := ErrAt.lt hE2.out; have hglx3 : wc.cell? ⟨1, 0, none⟩ = some (.iface 210 (.pointer (some (EA.adr 2)))) := (ErrAt.below hE2.out HB.out).cell; have hgnx3 : 1 < wc.heap.size := World.block_lt_of_cell? _ _ hglx3; have hgbx3_101 := Nat.ne_of_lt (Nat.lt_of_lt_of_le hgmx3 GE101.out); have hgcx3_101 := Nat.ne_of_gt (Nat.lt_of_lt_of_le hgmx3 GE101.out)))
   go_ret
   exact ⟨pe, pw⟩
  replace c22 := Bool.eq_false_iff.mpr c22
  subst c22
  have H1 : (some none) = some r := by rw [if_neg (show ¬ (false = true) by decide)] at H; exact H
  clear H
  have H := H1
  clear H1
  obtain rfl := Option.some.inj H
  have hcz24_0 : wc.cell? ⟨gb101, 0, none⟩ = some (.bool a0_0) := bc BK101 0
  have hcz24_1 : wc.cell? ⟨gb101, 1, none⟩ = some (.bool a0_1) := bc BK101 1
  have hcz24_2 : wc.cell? ⟨gb101, 2, none⟩ = some (.int .i64 a0_2) := bc BK101 2
  have hcz24_3 : wc.cell? ⟨gb101, 3, none⟩ = some (.int .i64 a0_3) := bc BK101 3
  have hfz24_0 := blk_frozen BK101.out 0
  have hfz24_1 := blk_frozen BK101.out 1
  have hfz24_2 := blk_frozen BK101.out 2
  have hfz24_3 := blk_frozen BK101.out 3
  go_wp2_with (first | ((with_reducible refine gate_callee (f := 146) rfl ?_); refine goesL_ (some 39) rfl rfl Tryd.func146 kk rfl #[.int .i64 a0_2] rfl (by (try simp only [List.map_toArray, List.map_cons, List.map_nil]); first | done | rfl | (simp only [List.length_drop, List.length_take]; rfl)) ?_; (with_reducible refine (interval_far.calls a0_2 false _ A18.out).mono ?_); rintro e w' ⟨rfl, ⟨nd, rfl⟩⟩; refine ⟨_, rfl, ?_⟩) | (go_at_call 146; (with_reducible refine (interval_far.calls a0_3 false _ A21.out).mono ?_); rintro e w' ⟨rfl, ⟨nd, rfl⟩⟩))
  go_ret
  exact ⟨pe, pw⟩

/-! ### interval_two: function 95 -/
def interval_two.f (k : Nat) (a0_0 : Bool) (a0_1 : Bool) (a0_2 : Int) (a0_3 : Int) (a1_0 : Bool) (a1_1 : Bool) (a1_2 : Int) (a1_3 : Int) : Option (Option Int) := (interval_Valid.f k a0_0 a0_1 a0_2 a0_3).bind fun t106 => (if t106.isNone = true then ((interval_Valid.f k a1_0 a1_1 a1_2 a1_3).bind fun t108 => (some t108)) else (some (some (t106.getD 0))))
theorem interval_two.mono : ∀ a0 a1 a2 a3 a4 a5 a6 a7 k, LeO (interval_two.f k a0 a1 a2 a3 a4 a5 a6 a7) (interval_two.f (k + 1) a0 a1 a2 a3 a4 a5 a6 a7) := by
 intro a0 a1 a2 a3 a4 a5 a6 a7 k
 unfold interval_two.f
 repeat' first
   | (with_reducible exact interval_Valid.mono _ _ _ _ _)
   | (with_reducible exact LeO.refl _)
   | (with_reducible exact LeO.none _)
   | (with_reducible refine LeO.ite ?_ ?_)
   | (with_reducible refine LeO.bind ?_ (fun _ => ?_))
   | exact interval_Valid.mono _ _ _ _ _
   | exact LeO.none _
   | refine LeO.ite ?_ ?_
   | refine LeO.bind ?_ (fun _ => ?_)
set_option maxHeartbeats 8000000 in
set_option maxRecDepth 100000 in
theorem interval_two.calls [EA] (k : Nat) (a0_0 : Bool) (a0_1 : Bool) (a0_2 : Int) (a0_3 : Int) (a1_0 : Bool) (a1_1 : Bool) (a1_2 : Int) (a1_3 : Int) (r : Option Int) (w : World) (h : interval_two.f k a0_0 a0_1 a0_2 a0_3 a1_0 a1_1 a1_2 a1_3 = some r) (h2_ : ErrAt 2 1 w) (h3_ : ErrAt 3 0 w) :
  Calls Tryd.prog 95 #[.agg #[.bool a0_0, .bool a0_1, .int .i64 a0_2, .int .i64 a0_3], .agg #[.bool a1_0, .bool a1_1, .int .i64 a1_2, .int .i64 a1_3]] w fun e w' => e = .returned (errW r) ∧ Below w.heap.size w w' := by
 have hE2 := am h2_
 clear h2_
 have hE3 := am h3_
 clear h3_
 have hu49 := Tryd.underlying49
 have hu32 := Tryd.underlying32
 have HB := am (Below.refl w.heap.size w)
 have H : ((interval_Valid.f k a0_0 a0_1 a0_2 a0_3).bind fun t106 => (if t106.isNone = true then ((interval_Valid.f k a1_0 a1_1 a1_2 a1_3).bind fun t108 => (some t108)) else (some (some (t106.getD 0))))) = some r := h
 clear h
 replace H := Option.bind_eq_some_iff.mp H
 obtain ⟨t106, A30, H⟩ := H
 replace H : (if t106.isNone = true then ((interval_Valid.f k a1_0 a1_1 a1_2 a1_3).bind fun t108 => (some t108)) else (some (some (t106.getD 0)))) = some r := H
 have A3 := am A30
 clear A30
 rcases t106 with _ | q107
 ·have H1 : ((interval_Valid.f k a1_0 a1_1 a1_2 a1_3).bind fun t108 => (some t108)) = some r := by rw [if_pos (show (none : Option Int).isNone = true by rfl)] at H; exact H
  clear H
  have H := H1
  clear H1
  try simp only [errW_none, errW_some]
  replace H := Option.bind_eq_some_iff.mp H
  obtain ⟨t108, A40, H⟩ := H
  replace H : (some t108) = some r := H
  have A4 := am A40
  clear A40
  obtain rfl := Option.some.inj H
  go_enter Tryd.func95, Tryd.ntmps95
  go_wp2_with (first | ((with_reducible refine gate_dst (N := 2) rfl ?_); refine box_event ?hg (N := 2) ?hd (cs := #[.bool a0_0, .bool a0_1, .int .i64 a0_2, .int .i64 a0_3]) (t := 49) ?hr ?_; (case hd => rfl); (case hg => rfl); (case hr => first | (go_simp; done) | (go_simp; rfl)); intro gb104 hg w5 hbox hb; have n0_ := am (below_step pw hb); have n1_ := am (hbox); have n2_ := am ((by rw [hg]; exact (below_size pw) : w.heap.size ≤ gb104)); have n3_ := am ((by rw [hg]; exact (below_size pw) : w.heap.size ≤ gb104)); clear HB; have HB := n0_; have BK104 := n1_; have GW104 := n2_; have GE104 := n3_; clear n0_ n1_ n2_ n3_; clear hb hbox hg) | ((with_reducible refine gate_dst (N := 3) rfl ?_); refine box_event ?hg (N := 3) ?hd (cs := #[.bool a1_0, .bool a1_1, .int .i64 a1_2, .int .i64 a1_3]) (t := 49) ?hr ?_; (case hd => rfl); (case hg => rfl); (case hr => first | (go_simp; done) | (go_simp; rfl)); intro gb105 hg w6 hbox hb; have n0_ := bb BK104 hb; have n1_ := am (below_step pw hb); have n2_ := am (hbox); have n3_ := am ((by rw [hg]; exact (below_size pw) : w.heap.size ≤ gb105)); have n4_ := am ((by rw [hg]; exact (below_size pw) : w.heap.size ≤ gb105)); have n5_ := am ((by rw [hg]; exact Nat.ne_of_lt (blk_lt pk) : gb104 ≠ gb105)); have n6_ := am ((by rw [hg]; exact Nat.ne_of_gt (blk_lt pk) : gb105 ≠ gb104)); clear BK104; clear HB; have BK104 := n0_; have HB := n1_; have BK105 := n2_; have GW105 := n3_; have GE105 := n4_; have NB104_105 := n5_; have NB105_104 := n6_; clear n0_ n1_ n2_ n3_ n4_ n5_ n6_; clear hb hbox hg; have hnb7 := NB104_105.out; have hnc7 := NB105_104.out; have hcz8_0 : w6.cell? ⟨gb104, 0, none⟩ = some (.bool a0_0) := bc BK104 0; have hcz8_1 : w6.cell? ⟨gb104, 1, none⟩ = some (.bool a0_1) := bc BK104 1; have hcz8_2 : w6.cell? ⟨gb104, 2, none⟩ = some (.int .i64 a0_2) := bc BK104 2; have hcz8_3 : w6.cell? ⟨gb104, 3, none⟩ = some (.int .i64 a0_3) := bc BK104 3; have hfz8_0 := blk_frozen BK104.out 0; have hfz8_1 := blk_frozen BK104.out 1; have hfz8_2 := blk_frozen BK104.out 2; have hfz8_3 := blk_frozen BK104.out 3) | ((with_reducible refine gate_callee (f := 132) rfl ?_); refine goesL_ (some 7) rfl rfl Tryd.func132 kk rfl #[.agg #[.bool a0_0, .bool a0_1, .int .i64 a0_2, .int .i64 a0_3]] rfl (by (try simp only [List.map_toArray, List.map_cons, List.map_nil]); first | done | rfl | (simp only [List.length_drop, List.length_take]; rfl)) ?_; (with_reducible refine (interval_Valid.calls k a0_0 a0_1 a0_2 a0_3 none _ A3.out (am (ErrAt.below hE2.out pw)).out (am (ErrAt.below hE3.out pw)).out).mono ?_); rintro e w9 ⟨rfl, hb⟩; refine ⟨_, rfl, ?_⟩; have n0_ := bb BK104 hb; have n1_ := bb BK105 hb; have n2_ := am (below_step pw hb); clear BK104; clear BK105; clear HB; have BK104 := n0_; have BK105 := n1_; have HB := n2_; clear n0_ n1_ n2_; (try clear hb); (try clear hb2); (try clear hk); (try clear hi); (try simp only [errW_none, errW_some]); have hcz10_0 : w9.cell? ⟨gb105, 0, none⟩ = some (.bool a1_0) := bc BK105 0; have hcz10_1 : w9.cell? ⟨gb105, 1, none⟩ = some (.bool a1_1) := bc BK105 1; have hcz10_2 : w9.cell? ⟨gb105, 2, none⟩ = some (.int .i64 a1_2) := bc BK105 2; have hcz10_3 : w9.cell? ⟨gb105, 3, none⟩ = some (.int .i64 a1_3) := bc BK105 3; have hfz10_0 := blk_frozen BK105.out 0; have hfz10_1 := blk_frozen BK105.out 1; have hfz10_2 := blk_frozen BK105.out 2; have hfz10_3 := blk_frozen BK105.out 3) | ((with_reducible refine gate_callee (f := 132) rfl ?_); refine goesL_ (some 12) rfl rfl Tryd.func132 kk rfl #[.agg #[.bool a1_0, .bool a1_1, .int .i64 a1_2, .int .i64 a1_3]] rfl (by (try simp only [List.map_toArray, List.map_cons, List.map_nil]); first | done | rfl | (simp only [List.length_drop, List.length_take]; rfl)) ?_; (with_reducible refine (interval_Valid.calls k a1_0 a1_1 a1_2 a1_3 t108 _ A4.out (am (ErrAt.below hE2.out pw)).out (am (ErrAt.below hE3.out pw)).out).mono ?_); rintro e w11 ⟨rfl, hb⟩; refine ⟨_, rfl, ?_⟩; have n0_ := bb BK104 hb; have n1_ := bb BK105 hb; have n2_ := am (below_step pw hb); clear BK104; clear BK105; clear HB; have BK104 := n0_; have BK105 := n1_; have HB := n2_; clear n0_ n1_ n2_; (try clear hb); (try clear hb2); (try clear hk); (try clear hi); (try simp only [errW_none, errW_some])))
  go_ret
  exact ⟨pe, pw⟩
 have H1 : (some (some q107)) = some r := by rw [if_neg (show ¬ (some q107).isNone = true by simp)] at H; exact H
 clear H
 have H := H1
 clear H1
 try simp only [errW_none, errW_some]
 obtain rfl := Option.some.inj H
 go_enter Tryd.func95, Tryd.ntmps95
 go_wp2_with (first | ((with_reducible refine gate_dst (N := 2) rfl ?_); refine box_event ?hg (N := 2) ?hd (cs := #[.bool a0_0, .bool a0_1, .int .i64 a0_2, .int .i64 a0_3]) (t := 49) ?hr ?_; (case hd => rfl); (case hg => rfl); (case hr => first | (go_simp; done) | (go_simp; rfl)); intro gb104 hg w12 hbox hb; have n0_ := am (below_step pw hb); have n1_ := am (hbox); have n2_ := am ((by rw [hg]; exact (below_size pw) : w.heap.size ≤ gb104)); have n3_ := am ((by rw [hg]; exact (below_size pw) : w.heap.size ≤ gb104)); clear HB; have HB := n0_; have BK104 := n1_; have GW104 := n2_; have GE104 := n3_; clear n0_ n1_ n2_ n3_; clear hb hbox hg) | ((with_reducible refine gate_dst (N := 3) rfl ?_); refine box_event ?hg (N := 3) ?hd (cs := #[.bool a1_0, .bool a1_1, .int .i64 a1_2, .int .i64 a1_3]) (t := 49) ?hr ?_; (case hd => rfl); (case hg => rfl); (case hr => first | (go_simp; done) | (go_simp; rfl)); intro gb105 hg w13 hbox hb; have n0_ := bb BK104 hb; have n1_ := am (below_step pw hb); have n2_ := am (hbox); have n3_ := am ((by rw [hg]; exact (below_size pw) : w.heap.size ≤ gb105)); have n4_ := am ((by rw [hg]; exact (below_size pw) : w.heap.size ≤ gb105)); have n5_ := am ((by rw [hg]; exact Nat.ne_of_lt (blk_lt pk) : gb104 ≠ gb105)); have n6_ := am ((by rw [hg]; exact Nat.ne_of_gt (blk_lt pk) : gb105 ≠ gb104)); clear BK104; clear HB; have BK104 := n0_; have HB := n1_; have BK105 := n2_; have GW105 := n3_; have GE105 := n4_; have NB104_105 := n5_; have NB105_104 := n6_; clear n0_ n1_ n2_ n3_ n4_ n5_ n6_; clear hb hbox hg; have hnb14 := NB104_105.out; have hnc14 := NB105_104.out; have hcz15_0 : w13.cell? ⟨gb104, 0, none⟩ = some (.bool a0_0) := bc BK104 0; have hcz15_1 : w13.cell? ⟨gb104, 1, none⟩ = some (.bool a0_1) := bc BK104 1; have hcz15_2 : w13.cell? ⟨gb104, 2, none⟩ = some (.int .i64 a0_2) := bc BK104 2; have hcz15_3 : w13.cell? ⟨gb104, 3, none⟩ = some (.int .i64 a0_3) := bc BK104 3; have hfz15_0 := blk_frozen BK104.out 0; have hfz15_1 := blk_frozen BK104.out 1; have hfz15_2 := blk_frozen BK104.out 2; have hfz15_3 := blk_frozen BK104.out 3) | ((with_reducible refine gate_callee (f := 132) rfl ?_); refine goesL_ (some 7) rfl rfl Tryd.func132 kk rfl #[.agg #[.bool a0_0, .bool a0_1, .int .i64 a0_2, .int .i64 a0_3]] rfl (by (try simp only [List.map_toArray, List.map_cons, List.map_nil]); first | done | rfl | (simp only [List.length_drop, List.length_take]; rfl)) ?_; (with_reducible refine (interval_Valid.calls k a0_0 a0_1 a0_2 a0_3 (some q107) _ A3.out (am (ErrAt.below hE2.out pw)).out (am (ErrAt.below hE3.out pw)).out).mono ?_); rintro e w16 ⟨rfl, hb⟩; refine ⟨_, rfl, ?_⟩; have n0_ := bb BK104 hb; have n1_ := bb BK105 hb; have n2_ := am (below_step pw hb); clear BK104; clear BK105; clear HB; have BK104 := n0_; have BK105 := n1_; have HB := n2_; clear n0_ n1_ n2_; (try clear hb); (try clear hb2); (try clear hk); (try clear hi); (try simp only [errW_none, errW_some])))
 go_ret
 exact ⟨pe, pw⟩

/-! ### interval_Add: function 94 -/
def interval_Add.f (k : Nat) (a0_0 : Bool) (a0_1 : Bool) (a0_2 : Int) (a0_3 : Int) (a1_0 : Bool) (a1_1 : Bool) (a1_2 : Int) (a1_3 : Int) : Option (Bool × Bool × Int × Int × Option Int) := (interval_two.f k a0_0 a0_1 a0_2 a0_3 a1_0 a1_1 a1_2 a1_3).bind fun t112 => (if t112.isNone = true then ((interval_add.f a0_0 a0_1 a0_2 a0_3 a1_0 a1_1 a1_2 a1_3).bind fun bt114 => (some (bt114.1, bt114.2.1, bt114.2.2.1, bt114.2.2.2, none))) else (some (false, false, 0, 0, some (t112.getD 0))))
theorem interval_Add.mono : ∀ a0 a1 a2 a3 a4 a5 a6 a7 k, LeO (interval_Add.f k a0 a1 a2 a3 a4 a5 a6 a7) (interval_Add.f (k + 1) a0 a1 a2 a3 a4 a5 a6 a7) := by
 intro a0 a1 a2 a3 a4 a5 a6 a7 k
 unfold interval_Add.f
 repeat' first
   | (with_reducible exact interval_two.mono _ _ _ _ _ _ _ _ _)
   | (with_reducible exact LeO.refl _)
   | (with_reducible exact LeO.none _)
   | (with_reducible refine LeO.ite ?_ ?_)
   | (with_reducible refine LeO.bind ?_ (fun _ => ?_))
   | exact interval_two.mono _ _ _ _ _ _ _ _ _
   | exact LeO.none _
   | refine LeO.ite ?_ ?_
   | refine LeO.bind ?_ (fun _ => ?_)
set_option maxHeartbeats 8000000 in
set_option maxRecDepth 100000 in
theorem interval_Add.calls [EA] (k : Nat) (a0_0 : Bool) (a0_1 : Bool) (a0_2 : Int) (a0_3 : Int) (a1_0 : Bool) (a1_1 : Bool) (a1_2 : Int) (a1_3 : Int) (r1 : Bool) (r2 : Bool) (r3 : Int) (r4 : Int) (r5 : Option Int) (w : World) (h : interval_Add.f k a0_0 a0_1 a0_2 a0_3 a1_0 a1_1 a1_2 a1_3 = some (r1, r2, r3, r4, r5)) (h2_ : ErrAt 2 1 w) (h3_ : ErrAt 3 0 w) :
  Calls Tryd.prog 94 #[.agg #[.bool a0_0, .bool a0_1, .int .i64 a0_2, .int .i64 a0_3], .agg #[.bool a1_0, .bool a1_1, .int .i64 a1_2, .int .i64 a1_3]] w fun e w' => e = .returned (.tuple #[.agg #[.bool r1, .bool r2, .int .i64 r3, .int .i64 r4], errW r5]) ∧ Below w.heap.size w w' := by
 have hE2 := am h2_
 clear h2_
 have hE3 := am h3_
 clear h3_
 have hu49 := Tryd.underlying49
 have hu32 := Tryd.underlying32
 have HB := am (Below.refl w.heap.size w)
 have H : ((interval_two.f k a0_0 a0_1 a0_2 a0_3 a1_0 a1_1 a1_2 a1_3).bind fun t112 => (if t112.isNone = true then ((interval_add.f a0_0 a0_1 a0_2 a0_3 a1_0 a1_1 a1_2 a1_3).bind fun bt114 => (some (bt114.1, bt114.2.1, bt114.2.2.1, bt114.2.2.2, none))) else (some (false, false, 0, 0, some (t112.getD 0))))) = some (r1, r2, r3, r4, r5) := h
 clear h
 replace H := Option.bind_eq_some_iff.mp H
 obtain ⟨t112, A30, H⟩ := H
 replace H : (if t112.isNone = true then ((interval_add.f a0_0 a0_1 a0_2 a0_3 a1_0 a1_1 a1_2 a1_3).bind fun bt114 => (some (bt114.1, bt114.2.1, bt114.2.2.1, bt114.2.2.2, none))) else (some (false, false, 0, 0, some (t112.getD 0)))) = some (r1, r2, r3, r4, r5) := H
 have A3 := am A30
 clear A30
 rcases t112 with _ | q113
 ·have H1 : ((interval_add.f a0_0 a0_1 a0_2 a0_3 a1_0 a1_1 a1_2 a1_3).bind fun bt114 => (some (bt114.1, bt114.2.1, bt114.2.2.1, bt114.2.2.2, none))) = some (r1, r2, r3, r4, r5) := by rw [if_pos (show (none : Option Int).isNone = true by rfl)] at H; exact H
  clear H
  have H := H1
  clear H1
  try simp only [errW_none, errW_some]
  replace H := Option.bind_eq_some_iff.mp H
  obtain ⟨⟨t114, t115, t116, t117⟩, A40, H⟩ := H
  replace H : (some (t114, t115, t116, t117, none)) = some (r1, r2, r3, r4, r5) := H
  have A4 := am A40
  clear A40
  simp only [Option.some.injEq, Prod.mk.injEq] at H
  obtain ⟨rfl, rfl, rfl, rfl, rfl⟩ := H
  go_enter Tryd.func94, Tryd.ntmps94
  go_wp2_with (first | ((with_reducible refine gate_dst (N := 2) rfl ?_); refine box_event ?hg (N := 2) ?hd (cs := #[.bool a0_0, .bool a0_1, .int .i64 a0_2, .int .i64 a0_3]) (t := 49) ?hr ?_; (case hd => rfl); (case hg => rfl); (case hr => first | (go_simp; done) | (go_simp; rfl)); intro gb109 hg w5 hbox hb; have n0_ := am (below_step pw hb); have n1_ := am (hbox); have n2_ := am ((by rw [hg]; exact (below_size pw) : w.heap.size ≤ gb109)); have n3_ := am ((by rw [hg]; exact (below_size pw) : w.heap.size ≤ gb109)); clear HB; have HB := n0_; have BK109 := n1_; have GW109 := n2_; have GE109 := n3_; clear n0_ n1_ n2_ n3_; clear hb hbox hg) | ((with_reducible refine gate_dst (N := 3) rfl ?_); refine box_event ?hg (N := 3) ?hd (cs := #[.bool a1_0, .bool a1_1, .int .i64 a1_2, .int .i64 a1_3]) (t := 49) ?hr ?_; (case hd => rfl); (case hg => rfl); (case hr => first | (go_simp; done) | (go_simp; rfl)); intro gb110 hg w6 hbox hb; have n0_ := bb BK109 hb; have n1_ := am (below_step pw hb); have n2_ := am (hbox); have n3_ := am ((by rw [hg]; exact (below_size pw) : w.heap.size ≤ gb110)); have n4_ := am ((by rw [hg]; exact (below_size pw) : w.heap.size ≤ gb110)); have n5_ := am ((by rw [hg]; exact Nat.ne_of_lt (blk_lt pk) : gb109 ≠ gb110)); have n6_ := am ((by rw [hg]; exact Nat.ne_of_gt (blk_lt pk) : gb110 ≠ gb109)); clear BK109; clear HB; have BK109 := n0_; have HB := n1_; have BK110 := n2_; have GW110 := n3_; have GE110 := n4_; have NB109_110 := n5_; have NB110_109 := n6_; clear n0_ n1_ n2_ n3_ n4_ n5_ n6_; clear hb hbox hg) | ((with_reducible refine gate_dst (N := 4) rfl ?_); refine box_event ?hg (N := 4) ?hd (cs := #[.bool false, .bool false, .int .i64 0, .int .i64 0]) (t := 49) ?hr ?_; (case hd => rfl); (case hg => rfl); (case hr => first | (go_simp; done) | (go_simp; rfl)); intro gb111 hg w7 hbox hb; have n0_ := bb BK109 hb; have n1_ := bb BK110 hb; have n2_ := am (below_step pw hb); have n3_ := am (hbox); have n4_ := am ((by rw [hg]; exact (below_size pw) : w.heap.size ≤ gb111)); have n5_ := am ((by rw [hg]; exact (below_size pw) : w.heap.size ≤ gb111)); have n6_ := am ((by rw [hg]; exact Nat.ne_of_lt (blk_lt pk) : gb109 ≠ gb111)); have n7_ := am ((by rw [hg]; exact Nat.ne_of_gt (blk_lt pk) : gb111 ≠ gb109)); have n8_ := am ((by rw [hg]; exact Nat.ne_of_lt (blk_lt pk) : gb110 ≠ gb111)); have n9_ := am ((by rw [hg]; exact Nat.ne_of_gt (blk_lt pk) : gb111 ≠ gb110)); clear BK109; clear BK110; clear HB; have BK109 := n0_; have BK110 := n1_; have HB := n2_; have BK111 := n3_; have GW111 := n4_; have GE111 := n5_; have NB109_111 := n6_; have NB111_109 := n7_; have NB110_111 := n8_; have NB111_110 := n9_; clear n0_ n1_ n2_ n3_ n4_ n5_ n6_ n7_ n8_ n9_; clear hb hbox hg; have hnb8 := NB109_110.out; have hnc8 := NB110_109.out; have hnb9 := NB109_111.out; have hnc9 := NB111_109.out; have hcz10_0 : w7.cell? ⟨gb109, 0, none⟩ = some (.bool a0_0) := bc BK109 0; have hcz10_1 : w7.cell? ⟨gb109, 1, none⟩ = some (.bool a0_1) := bc BK109 1; have hcz10_2 : w7.cell? ⟨gb109, 2, none⟩ = some (.int .i64 a0_2) := bc BK109 2; have hcz10_3 : w7.cell? ⟨gb109, 3, none⟩ = some (.int .i64 a0_3) := bc BK109 3; have hfz10_0 := blk_frozen BK109.out 0; have hfz10_1 := blk_frozen BK109.out 1; have hfz10_2 := blk_frozen BK109.out 2; have hfz10_3 := blk_frozen BK109.out 3; have hnb11 := NB110_111.out; have hnc11 := NB111_110.out; have hcz12_0 : w7.cell? ⟨gb110, 0, none⟩ = some (.bool a1_0) := bc BK110 0; have hcz12_1 : w7.cell? ⟨gb110, 1, none⟩ = some (.bool a1_1) := bc BK110 1; have hcz12_2 : w7.cell? ⟨gb110, 2, none⟩ = some (.int .i64 a1_2) := bc BK110 2; have hcz12_3 : w7.cell? ⟨gb110, 3, none⟩ = some (.int .i64 a1_3) := bc BK110 3; have hfz12_0 := blk_frozen BK110.out 0; have hfz12_1 := blk_frozen BK110.out 1; have hfz12_2 := blk_frozen BK110.out 2; have hfz12_3 := blk_frozen BK110.out 3) | ((with_reducible refine gate_callee (f := 95) rfl ?_); refine goesL_ (some 9) rfl rfl Tryd.func95 kk rfl #[.agg #[.bool a0_0, .bool a0_1, .int .i64 a0_2, .int .i64 a0_3], .agg #[.bool a1_0, .bool a1_1, .int .i64 a1_2, .int .i64 a1_3]] rfl (by (try simp only [List.map_toArray, List.map_cons, List.map_nil]); first | done | rfl | (simp only [List.length_drop, List.length_take]; rfl)) ?_; (with_reducible refine (interval_two.calls k a0_0 a0_1 a0_2 a0_3 a1_0 a1_1 a1_2 a1_3 none _ A3.out (am (ErrAt.below hE2.out pw)).out (am (ErrAt.below hE3.out pw)).out).mono ?_); rintro e w13 ⟨rfl, hb⟩; refine ⟨_, rfl, ?_⟩; have n0_ := bb BK109 hb; have n1_ := bb BK110 hb; have n2_ := bb BK111 hb; have n3_ := am (below_step pw hb); clear BK109; clear BK110; clear BK111; clear HB; have BK109 := n0_; have BK110 := n1_; have BK111 := n2_; have HB := n3_; clear n0_ n1_ n2_ n3_; (try clear hb); (try clear hb2); (try clear hk); (try clear hi); (try simp only [errW_none, errW_some]); have hcz14_0 : w13.cell? ⟨gb109, 0, none⟩ = some (.bool a0_0) := bc BK109 0; have hcz14_1 : w13.cell? ⟨gb109, 1, none⟩ = some (.bool a0_1) := bc BK109 1; have hcz14_2 : w13.cell? ⟨gb109, 2, none⟩ = some (.int .i64 a0_2) := bc BK109 2; have hcz14_3 : w13.cell? ⟨gb109, 3, none⟩ = some (.int .i64 a0_3) := bc BK109 3; have hfz14_0 := blk_frozen BK109.out 0; have hfz14_1 := blk_frozen BK109.out 1; have hfz14_2 := blk_frozen BK109.out 2; have hfz14_3 := blk_frozen BK109.out 3; have hcz15_0 : w13.cell? ⟨gb110, 0, none⟩ = some (.bool a1_0) := bc BK110 0; have hcz15_1 : w13.cell? ⟨gb110, 1, none⟩ = some (.bool a1_1) := bc BK110 1; have hcz15_2 : w13.cell? ⟨gb110, 2, none⟩ = some (.int .i64 a1_2) := bc BK110 2; have hcz15_3 : w13.cell? ⟨gb110, 3, none⟩ = some (.int .i64 a1_3) := bc BK110 3; have hfz15_0 := blk_frozen BK110.out 0; have hfz15_1 := blk_frozen BK110.out 1; have hfz15_2 := blk_frozen BK110.out 2; have hfz15_3 := blk_frozen BK110.out 3) | ((with_reducible refine gate_callee (f := 131) rfl ?_); refine goesL_ (some 16) rfl rfl Tryd.func131 kk rfl #[.agg #[.bool a0_0, .bool a0_1, .int .i64 a0_2, .int .i64 a0_3], .agg #[.bool a1_0, .bool a1_1, .int .i64 a1_2, .int .i64 a1_3]] rfl (by (try simp only [List.map_toArray, List.map_cons, List.map_nil]); first | done | rfl | (simp only [List.length_drop, List.length_take]; rfl)) ?_; (with_reducible refine (interval_add.calls a0_0 a0_1 a0_2 a0_3 a1_0 a1_1 a1_2 a1_3 t114 t115 t116 t117 _ A4.out).mono ?_); rintro e w16 ⟨rfl, hb⟩; refine ⟨_, rfl, ?_⟩; have n0_ := bb BK109 hb; have n1_ := bb BK110 hb; have n2_ := bb BK111 hb; have n3_ := am (below_step pw hb); clear BK109; clear BK110; clear BK111; clear HB; have BK109 := n0_; have BK110 := n1_; have BK111 := n2_; have HB := n3_; clear n0_ n1_ n2_ n3_; (try clear hb); (try clear hb2); (try clear hk); (try clear hi); have hcz17_0 : w16.cell? ⟨gb111, 0, none⟩ = some (.bool false) := bc BK111 0; have hcz17_1 : w16.cell? ⟨gb111, 1, none⟩ = some (.bool false) := bc BK111 1; have hcz17_2 : w16.cell? ⟨gb111, 2, none⟩ = some (.int .i64 0) := bc BK111 2; have hcz17_3 : w16.cell? ⟨gb111, 3, none⟩ = some (.int .i64 0) := bc BK111 3; have hfz17_0 := blk_frozen BK111.out 0; have hfz17_1 := blk_frozen BK111.out 1; have hfz17_2 := blk_frozen BK111.out 2; have hfz17_3 := blk_frozen BK111.out 3))
  refine bodyPost_ret (results_ct rfl _ _ gb111 49 #[.bool t114, .bool t115, .int .i64 t116, .int .i64 t117] (0, 0) _ rfl (by (with_reducible repeat (first | refine blk_drewN ?_ _ | refine blk_drew ?_ | refine blk_alloc ?_ _)); refine blk_put (cs := #[.bool t114, .bool t115, .int .i64 t116, .int .i64 0]) ?_ 3 _ rfl; (with_reducible repeat (first | refine blk_drewN ?_ _ | refine blk_drew ?_ | refine blk_alloc ?_ _)); refine blk_put (cs := #[.bool t114, .bool t115, .int .i64 0, .int .i64 0]) ?_ 2 _ rfl; (with_reducible repeat (first | refine blk_drewN ?_ _ | refine blk_drew ?_ | refine blk_alloc ?_ _)); refine blk_put (cs := #[.bool t114, .bool false, .int .i64 0, .int .i64 0]) ?_ 1 _ rfl; (with_reducible repeat (first | refine blk_drewN ?_ _ | refine blk_drew ?_ | refine blk_alloc ?_ _)); refine blk_put (cs := #[.bool false, .bool false, .int .i64 0, .int .i64 0]) ?_ 0 _ rfl; (with_reducible repeat (first | refine blk_drewN ?_ _ | refine blk_drew ?_ | refine blk_alloc ?_ _)); exact BK111.out) Tryd.underlying49 rfl kk) rfl ?_
  exact ⟨pe, pw⟩
 have H1 : (some (false, false, 0, 0, some q113)) = some (r1, r2, r3, r4, r5) := by rw [if_neg (show ¬ (some q113).isNone = true by simp)] at H; exact H
 clear H
 have H := H1
 clear H1
 try simp only [errW_none, errW_some]
 simp only [Option.some.injEq, Prod.mk.injEq] at H
 obtain ⟨rfl, rfl, rfl, rfl, rfl⟩ := H
 go_enter Tryd.func94, Tryd.ntmps94
 go_wp2_with (first | ((with_reducible refine gate_dst (N := 2) rfl ?_); refine box_event ?hg (N := 2) ?hd (cs := #[.bool a0_0, .bool a0_1, .int .i64 a0_2, .int .i64 a0_3]) (t := 49) ?hr ?_; (case hd => rfl); (case hg => rfl); (case hr => first | (go_simp; done) | (go_simp; rfl)); intro gb109 hg w18 hbox hb; have n0_ := am (below_step pw hb); have n1_ := am (hbox); have n2_ := am ((by rw [hg]; exact (below_size pw) : w.heap.size ≤ gb109)); have n3_ := am ((by rw [hg]; exact (below_size pw) : w.heap.size ≤ gb109)); clear HB; have HB := n0_; have BK109 := n1_; have GW109 := n2_; have GE109 := n3_; clear n0_ n1_ n2_ n3_; clear hb hbox hg) | ((with_reducible refine gate_dst (N := 3) rfl ?_); refine box_event ?hg (N := 3) ?hd (cs := #[.bool a1_0, .bool a1_1, .int .i64 a1_2, .int .i64 a1_3]) (t := 49) ?hr ?_; (case hd => rfl); (case hg => rfl); (case hr => first | (go_simp; done) | (go_simp; rfl)); intro gb110 hg w19 hbox hb; have n0_ := bb BK109 hb; have n1_ := am (below_step pw hb); have n2_ := am (hbox); have n3_ := am ((by rw [hg]; exact (below_size pw) : w.heap.size ≤ gb110)); have n4_ := am ((by rw [hg]; exact (below_size pw) : w.heap.size ≤ gb110)); have n5_ := am ((by rw [hg]; exact Nat.ne_of_lt (blk_lt pk) : gb109 ≠ gb110)); have n6_ := am ((by rw [hg]; exact Nat.ne_of_gt (blk_lt pk) : gb110 ≠ gb109)); clear BK109; clear HB; have BK109 := n0_; have HB := n1_; have BK110 := n2_; have GW110 := n3_; have GE110 := n4_; have NB109_110 := n5_; have NB110_109 := n6_; clear n0_ n1_ n2_ n3_ n4_ n5_ n6_; clear hb hbox hg) | ((with_reducible refine gate_dst (N := 4) rfl ?_); refine box_event ?hg (N := 4) ?hd (cs := #[.bool false, .bool false, .int .i64 0, .int .i64 0]) (t := 49) ?hr ?_; (case hd => rfl); (case hg => rfl); (case hr => first | (go_simp; done) | (go_simp; rfl)); intro gb111 hg w20 hbox hb; have n0_ := bb BK109 hb; have n1_ := bb BK110 hb; have n2_ := am (below_step pw hb); have n3_ := am (hbox); have n4_ := am ((by rw [hg]; exact (below_size pw) : w.heap.size ≤ gb111)); have n5_ := am ((by rw [hg]; exact (below_size pw) : w.heap.size ≤ gb111)); have n6_ := am ((by rw [hg]; exact Nat.ne_of_lt (blk_lt pk) : gb109 ≠ gb111)); have n7_ := am ((by rw [hg]; exact Nat.ne_of_gt (blk_lt pk) : gb111 ≠ gb109)); have n8_ := am ((by rw [hg]; exact Nat.ne_of_lt (blk_lt pk) : gb110 ≠ gb111)); have n9_ := am ((by rw [hg]; exact Nat.ne_of_gt (blk_lt pk) : gb111 ≠ gb110)); clear BK109; clear BK110; clear HB; have BK109 := n0_; have BK110 := n1_; have HB := n2_; have BK111 := n3_; have GW111 := n4_; have GE111 := n5_; have NB109_111 := n6_; have NB111_109 := n7_; have NB110_111 := n8_; have NB111_110 := n9_; clear n0_ n1_ n2_ n3_ n4_ n5_ n6_ n7_ n8_ n9_; clear hb hbox hg; have hnb21 := NB109_110.out; have hnc21 := NB110_109.out; have hnb22 := NB109_111.out; have hnc22 := NB111_109.out; have hcz23_0 : w20.cell? ⟨gb109, 0, none⟩ = some (.bool a0_0) := bc BK109 0; have hcz23_1 : w20.cell? ⟨gb109, 1, none⟩ = some (.bool a0_1) := bc BK109 1; have hcz23_2 : w20.cell? ⟨gb109, 2, none⟩ = some (.int .i64 a0_2) := bc BK109 2; have hcz23_3 : w20.cell? ⟨gb109, 3, none⟩ = some (.int .i64 a0_3) := bc BK109 3; have hfz23_0 := blk_frozen BK109.out 0; have hfz23_1 := blk_frozen BK109.out 1; have hfz23_2 := blk_frozen BK109.out 2; have hfz23_3 := blk_frozen BK109.out 3; have hnb24 := NB110_111.out; have hnc24 := NB111_110.out; have hcz25_0 : w20.cell? ⟨gb110, 0, none⟩ = some (.bool a1_0) := bc BK110 0; have hcz25_1 : w20.cell? ⟨gb110, 1, none⟩ = some (.bool a1_1) := bc BK110 1; have hcz25_2 : w20.cell? ⟨gb110, 2, none⟩ = some (.int .i64 a1_2) := bc BK110 2; have hcz25_3 : w20.cell? ⟨gb110, 3, none⟩ = some (.int .i64 a1_3) := bc BK110 3; have hfz25_0 := blk_frozen BK110.out 0; have hfz25_1 := blk_frozen BK110.out 1; have hfz25_2 := blk_frozen BK110.out 2; have hfz25_3 := blk_frozen BK110.out 3) | ((with_reducible refine gate_callee (f := 95) rfl ?_); refine goesL_ (some 9) rfl rfl Tryd.func95 kk rfl #[.agg #[.bool a0_0, .bool a0_1, .int .i64 a0_2, .int .i64 a0_3], .agg #[.bool a1_0, .bool a1_1, .int .i64 a1_2, .int .i64 a1_3]] rfl (by (try simp only [List.map_toArray, List.map_cons, List.map_nil]); first | done | rfl | (simp only [List.length_drop, List.length_take]; rfl)) ?_; (with_reducible refine (interval_two.calls k a0_0 a0_1 a0_2 a0_3 a1_0 a1_1 a1_2 a1_3 (some q113) _ A3.out (am (ErrAt.below hE2.out pw)).out (am (ErrAt.below hE3.out pw)).out).mono ?_); rintro e w26 ⟨rfl, hb⟩; refine ⟨_, rfl, ?_⟩; have n0_ := bb BK109 hb; have n1_ := bb BK110 hb; have n2_ := bb BK111 hb; have n3_ := am (below_step pw hb); clear BK109; clear BK110; clear BK111; clear HB; have BK109 := n0_; have BK110 := n1_; have BK111 := n2_; have HB := n3_; clear n0_ n1_ n2_ n3_; (try clear hb); (try clear hb2); (try clear hk); (try clear hi); (try simp only [errW_none, errW_some]); have hcz27_0 : w26.cell? ⟨gb111, 0, none⟩ = some (.bool false) := bc BK111 0; have hcz27_1 : w26.cell? ⟨gb111, 1, none⟩ = some (.bool false) := bc BK111 1; have hcz27_2 : w26.cell? ⟨gb111, 2, none⟩ = some (.int .i64 0) := bc BK111 2; have hcz27_3 : w26.cell? ⟨gb111, 3, none⟩ = some (.int .i64 0) := bc BK111 3; have hfz27_0 := blk_frozen BK111.out 0; have hfz27_1 := blk_frozen BK111.out 1; have hfz27_2 := blk_frozen BK111.out 2; have hfz27_3 := blk_frozen BK111.out 3))
 refine bodyPost_ret (results_ct rfl _ _ gb111 49 #[.bool false, .bool false, .int .i64 0, .int .i64 0] (0, 0) _ rfl (by (with_reducible repeat (first | refine blk_drewN ?_ _ | refine blk_drew ?_ | refine blk_alloc ?_ _)); refine blk_put (cs := #[.bool false, .bool false, .int .i64 0, .int .i64 0]) ?_ 3 _ rfl; (with_reducible repeat (first | refine blk_drewN ?_ _ | refine blk_drew ?_ | refine blk_alloc ?_ _)); refine blk_put (cs := #[.bool false, .bool false, .int .i64 0, .int .i64 0]) ?_ 2 _ rfl; (with_reducible repeat (first | refine blk_drewN ?_ _ | refine blk_drew ?_ | refine blk_alloc ?_ _)); refine blk_put (cs := #[.bool false, .bool false, .int .i64 0, .int .i64 0]) ?_ 1 _ rfl; (with_reducible repeat (first | refine blk_drewN ?_ _ | refine blk_drew ?_ | refine blk_alloc ?_ _)); refine blk_put (cs := #[.bool false, .bool false, .int .i64 0, .int .i64 0]) ?_ 0 _ rfl; (with_reducible repeat (first | refine blk_drewN ?_ _ | refine blk_drew ?_ | refine blk_alloc ?_ _)); exact BK111.out) Tryd.underlying49 rfl kk) rfl ?_
 exact ⟨pe, pw⟩

/-! ### L2_three: function 28 -/
def L2_three.f (k : Nat)  : Option (Bool) := (interval_Add.f k false false 1 2 false false 3 4).bind fun bt118 => (if bt118.2.2.2.2.isNone = true then (some (!bt118.1 && (!bt118.2.1 && (bt118.2.2.1 == 4 && (bt118.2.2.2.1 == 6))))) else (some false))
theorem L2_three.mono : ∀ k, LeO (L2_three.f k ) (L2_three.f (k + 1) ) := by
 intro  k
 unfold L2_three.f
 repeat' first
   | (with_reducible exact interval_Add.mono _ _ _ _ _ _ _ _ _)
   | (with_reducible exact LeO.refl _)
   | (with_reducible exact LeO.none _)
   | (with_reducible refine LeO.ite ?_ ?_)
   | (with_reducible refine LeO.bind ?_ (fun _ => ?_))
   | exact interval_Add.mono _ _ _ _ _ _ _ _ _
   | exact LeO.none _
   | refine LeO.ite ?_ ?_
   | refine LeO.bind ?_ (fun _ => ?_)
set_option maxHeartbeats 8000000 in
set_option maxRecDepth 100000 in
theorem L2_three.calls [EA] (k : Nat)  (r : Bool) (w : World) (h : L2_three.f k  = some r) (h2_ : ErrAt 2 1 w) (h3_ : ErrAt 3 0 w) :
  Calls Tryd.prog 28 #[] w fun e w' => e = .returned (.bool r) ∧ Below w.heap.size w w' := by
 have hE2 := am h2_
 clear h2_
 have hE3 := am h3_
 clear h3_
 have hu49 := Tryd.underlying49
 have hu32 := Tryd.underlying32
 have HB := am (Below.refl w.heap.size w)
 have H : ((interval_Add.f k false false 1 2 false false 3 4).bind fun bt118 => (if bt118.2.2.2.2.isNone = true then (some (!bt118.1 && (!bt118.2.1 && (bt118.2.2.1 == 4 && (bt118.2.2.2.1 == 6))))) else (some false))) = some r := h
 clear h
 replace H := Option.bind_eq_some_iff.mp H
 obtain ⟨⟨t118, t119, t120, t121, t122⟩, A10, H⟩ := H
 replace H : (if t122.isNone = true then (some (!t118 && (!t119 && (t120 == 4 && (t121 == 6))))) else (some false)) = some r := H
 have A1 := am A10
 clear A10
 rcases t122 with _ | q124
 ·have H1 : (some (!t118 && (!t119 && (t120 == 4 && (t121 == 6))))) = some r := by rw [if_pos (show (none : Option Int).isNone = true by rfl)] at H; exact H
  clear H
  have H := H1
  clear H1
  try simp only [errW_none, errW_some]
  obtain rfl := Option.some.inj H
  go_enter Tryd.func28, Tryd.ntmps28
  go_wp2_with (first | ((with_reducible refine gate_callee (f := 94) rfl ?_); refine goesL_ (some 6) rfl rfl Tryd.func94 kk rfl #[.agg #[.bool false, .bool false, .int .i64 1, .int .i64 2], .agg #[.bool false, .bool false, .int .i64 3, .int .i64 4]] rfl (by (try simp only [List.map_toArray, List.map_cons, List.map_nil]); first | done | rfl | (simp only [List.length_drop, List.length_take]; rfl)) ?_; (with_reducible refine (interval_Add.calls k false false 1 2 false false 3 4 t118 t119 t120 t121 none _ A1.out (am (ErrAt.below hE2.out pw)).out (am (ErrAt.below hE3.out pw)).out).mono ?_); rintro e w2 ⟨rfl, hb⟩; refine ⟨_, rfl, ?_⟩; have n0_ := am (below_step pw hb); clear HB; have HB := n0_; clear n0_; (try clear hb); (try clear hb2); (try clear hk); (try clear hi); (try simp only [errW_none, errW_some])) | ((with_reducible refine gate_dst (N := 1) rfl ?_); refine box_event ?hg (N := 1) ?hd (cs := #[.bool false, .bool false, .int .i64 0, .int .i64 0]) (t := 49) ?hr ?_; (case hd => rfl); (case hg => rfl); (case hr => first | (go_simp; done) | (go_simp; rfl)); intro gb123 hg w3 hbox hb; have n0_ := am (below_step pw hb); have n1_ := am (hbox); have n2_ := am ((by rw [hg]; exact (below_size pw) : w.heap.size ≤ gb123)); have n3_ := am ((by rw [hg]; exact (below_size pw) : w.heap.size ≤ gb123)); clear HB; have HB := n0_; have BK123 := n1_; have GW123 := n2_; have GE123 := n3_; clear n0_ n1_ n2_ n3_; clear hb hbox hg; have hcz4_0 : w3.cell? ⟨gb123, 0, none⟩ = some (.bool false) := bc BK123 0; have hcz4_1 : w3.cell? ⟨gb123, 1, none⟩ = some (.bool false) := bc BK123 1; have hcz4_2 : w3.cell? ⟨gb123, 2, none⟩ = some (.int .i64 0) := bc BK123 2; have hcz4_3 : w3.cell? ⟨gb123, 3, none⟩ = some (.int .i64 0) := bc BK123 3; have hfz4_0 := blk_frozen BK123.out 0; have hfz4_1 := blk_frozen BK123.out 1; have hfz4_2 := blk_frozen BK123.out 2; have hfz4_3 := blk_frozen BK123.out 3))
  go_ret
  exact ⟨pe, pw⟩
 have H1 : (some false) = some r := by rw [if_neg (show ¬ (some q124).isNone = true by simp)] at H; exact H
 clear H
 have H := H1
 clear H1
 try simp only [errW_none, errW_some]
 obtain rfl := Option.some.inj H
 go_enter Tryd.func28, Tryd.ntmps28
 go_wp2_with (first | ((with_reducible refine gate_callee (f := 94) rfl ?_); refine goesL_ (some 6) rfl rfl Tryd.func94 kk rfl #[.agg #[.bool false, .bool false, .int .i64 1, .int .i64 2], .agg #[.bool false, .bool false, .int .i64 3, .int .i64 4]] rfl (by (try simp only [List.map_toArray, List.map_cons, List.map_nil]); first | done | rfl | (simp only [List.length_drop, List.length_take]; rfl)) ?_; (with_reducible refine (interval_Add.calls k false false 1 2 false false 3 4 t118 t119 t120 t121 (some q124) _ A1.out (am (ErrAt.below hE2.out pw)).out (am (ErrAt.below hE3.out pw)).out).mono ?_); rintro e w5 ⟨rfl, hb⟩; refine ⟨_, rfl, ?_⟩; have n0_ := am (below_step pw hb); clear HB; have HB := n0_; clear n0_; (try clear hb); (try clear hb2); (try clear hk); (try clear hi); (try simp only [errW_none, errW_some])) | ((with_reducible refine gate_dst (N := 1) rfl ?_); refine box_event ?hg (N := 1) ?hd (cs := #[.bool false, .bool false, .int .i64 0, .int .i64 0]) (t := 49) ?hr ?_; (case hd => rfl); (case hg => rfl); (case hr => first | (go_simp; done) | (go_simp; rfl)); intro gb123 hg w6 hbox hb; have n0_ := am (below_step pw hb); have n1_ := am (hbox); have n2_ := am ((by rw [hg]; exact (below_size pw) : w.heap.size ≤ gb123)); have n3_ := am ((by rw [hg]; exact (below_size pw) : w.heap.size ≤ gb123)); clear HB; have HB := n0_; have BK123 := n1_; have GW123 := n2_; have GE123 := n3_; clear n0_ n1_ n2_ n3_; clear hb hbox hg; have hcz7_0 : w6.cell? ⟨gb123, 0, none⟩ = some (.bool false) := bc BK123 0; have hcz7_1 : w6.cell? ⟨gb123, 1, none⟩ = some (.bool false) := bc BK123 1; have hcz7_2 : w6.cell? ⟨gb123, 2, none⟩ = some (.int .i64 0) := bc BK123 2; have hcz7_3 : w6.cell? ⟨gb123, 3, none⟩ = some (.int .i64 0) := bc BK123 3; have hfz7_0 := blk_frozen BK123.out 0; have hfz7_1 := blk_frozen BK123.out 1; have hfz7_2 := blk_frozen BK123.out 2; have hfz7_3 := blk_frozen BK123.out 3))
 go_ret
 exact ⟨pe, pw⟩

/-! ### R2_Far: function 22 -/
def R2_Far.f (a0 : Int) (a1 : Int) : Option (Bool) := if a0 > a1 then (some true) else (some (decide (a0 < (wrap64 (-a1)))))
set_option maxHeartbeats 8000000 in
set_option maxRecDepth 100000 in
theorem R2_Far.calls [EA] (a0 : Int) (a1 : Int) (r : Bool) (w : World) (h : R2_Far.f a0 a1 = some r) :
  Calls Tryd.prog 22 #[.int .i64 a0, .int .i64 a1] w fun e w' => e = .returned (.bool r) ∧ Drawn0 w w' := by
 have H : (if a0 > a1 then (some true) else (some (decide (a0 < (wrap64 (-a1)))))) = some r := h
 clear h
 by_cases c3 : a0 > a1
 ·rw [if_pos c3] at H
  have c3b0 : decide (a1 < a0) = true := decide_eq_true c3
  clear c3
  obtain rfl := Option.some.inj H
  go_enter Tryd.func22, Tryd.ntmps22
  go_wp2
  go_ret
  exact ⟨by first | rfl | (simp; done) | (simp [*]; done), by repeat (first | exact Drawn0.refl _ | apply Drawn0.step)⟩
 rw [if_neg c3] at H
 have c3b0 : decide (a1 < a0) = false := decide_eq_false c3
 clear c3
 obtain rfl := Option.some.inj H
 go_enter Tryd.func22, Tryd.ntmps22
 go_wp2
 go_ret
 exact ⟨by first | rfl | (simp; done) | (simp [*]; done), by repeat (first | exact Drawn0.refl _ | apply Drawn0.step)⟩

end Go.Proofs.YtcalcnfppnbooaaDoor.R
