import Derived.Test.YtcalcnfppnbooaaDoorIrEb
import Derived.Test.YtcalcnfppnbooaaDoorIrR0
import Derived.Test.YtcalcnfppnbooaaDoorIrR2
-- Written by wip/xprint.py (the session's program over the kit's print).
namespace Go.Proofs.YtcalcnfppnbooaaDoor.R
open Go.RowKit Go.Proofs.YtcalcnfppnbooaaDoorW.PrintWords Go.Proofs.YtcalcnfppnbooaaDoorW.PrintLast Go.Proofs.YtcalcnfppnbooaaDoorW.PrintMore Go.Proofs.Rcg
attribute [local go_sem] max2_int min2_int max_two min_two max_three min_three max_four min_four   -- for this text's walks alone
set_option linter.unusedVariables false
set_option linter.unusedSimpArgs false

/-! ### R2_IntervalError: function 33 -/
mutual
def R2_IntervalError.j0 : Nat → Bool → Bool → Bool → Int → Int → Option (Int)
 | 0, _, _, _, _, _ => none
 | k + 1, x20, x126000, x126001, x126002, x126003 => if x20 = true then (some 3) else (if x126000 = true then (R2_IntervalError.j1 k false x126000 x126001 x126002 x126003) else (if x126001 = true then (R2_IntervalError.j1 k false x126000 x126001 x126002 x126003) else (R2_IntervalError.j1 k (decide (x126002 > x126003)) x126000 x126001 x126002 x126003)))
def R2_IntervalError.j1 : Nat → Bool → Bool → Bool → Int → Int → Option (Int)
 | 0, _, _, _, _, _ => none
 | k + 1, x35, x126000, x126001, x126002, x126003 => if x35 = true then (some 3) else ((R2_Far.f x126002 1099511627776).bind fun t126 => ((R2_Far.f x126003 1099511627776).bind fun t127 => (if t126 = true then (some 2) else (if t127 = true then (some 2) else (some 0)))))
end
def R2_IntervalError.f (k : Nat) (a0_0 : Bool) (a0_1 : Bool) (a0_2 : Int) (a0_3 : Int) : Option (Int) := if a0_0 = true then (if a0_2 = 0 then (if a0_1 = true then (R2_IntervalError.j0 k (a0_3 != 0) a0_0 a0_1 a0_2 a0_3) else (R2_IntervalError.j0 k false a0_0 a0_1 a0_2 a0_3)) else (R2_IntervalError.j0 k true a0_0 a0_1 a0_2 a0_3)) else (if a0_1 = true then (R2_IntervalError.j0 k (a0_3 != 0) a0_0 a0_1 a0_2 a0_3) else (R2_IntervalError.j0 k false a0_0 a0_1 a0_2 a0_3))
theorem R2_IntervalError.mono_l : ∀ k, (∀ y0 y1 y2 y3 y4, LeO (R2_IntervalError.j0 k y0 y1 y2 y3 y4) (R2_IntervalError.j0 (k + 1) y0 y1 y2 y3 y4)) ∧ (∀ y0 y1 y2 y3 y4, LeO (R2_IntervalError.j1 k y0 y1 y2 y3 y4) (R2_IntervalError.j1 (k + 1) y0 y1 y2 y3 y4))
 | 0 => ⟨fun _ _ _ _ _ r h => by simp [R2_IntervalError.j0] at h, fun _ _ _ _ _ r h => by simp [R2_IntervalError.j1] at h⟩
 | k + 1 => by
  obtain ⟨ih0, ih1⟩ := R2_IntervalError.mono_l k
  refine ⟨?_, ?_⟩
  ·intro y0 y1 y2 y3 y4
   unfold R2_IntervalError.j0
   repeat' first
   | (with_reducible exact ih0 _ _ _ _ _)
   | (with_reducible exact ih1 _ _ _ _ _)
   | (with_reducible exact LeO.refl _)
   | (with_reducible exact LeO.none _)
   | (with_reducible refine LeO.ite ?_ ?_)
   | (with_reducible refine LeO.bind ?_ (fun _ => ?_))
   | exact ih0 _ _ _ _ _
   | exact ih1 _ _ _ _ _
   | exact LeO.none _
   | refine LeO.ite ?_ ?_
   | refine LeO.bind ?_ (fun _ => ?_)
  intro y0 y1 y2 y3 y4
  unfold R2_IntervalError.j1
  repeat' first
  | (with_reducible exact ih0 _ _ _ _ _)
  | (with_reducible exact ih1 _ _ _ _ _)
  | (with_reducible exact LeO.refl _)
  | (with_reducible exact LeO.none _)
  | (with_reducible refine LeO.ite ?_ ?_)
  | (with_reducible refine LeO.bind ?_ (fun _ => ?_))
  | exact ih0 _ _ _ _ _
  | exact ih1 _ _ _ _ _
  | exact LeO.none _
  | refine LeO.ite ?_ ?_
  | refine LeO.bind ?_ (fun _ => ?_)
theorem R2_IntervalError.mono : ∀ a0 a1 a2 a3 k, LeO (R2_IntervalError.f k a0 a1 a2 a3) (R2_IntervalError.f (k + 1) a0 a1 a2 a3) := by
 intro a0 a1 a2 a3 k
 obtain ⟨ih0, ih1⟩ := R2_IntervalError.mono_l k
 unfold R2_IntervalError.f
 repeat' first
   | (with_reducible exact ih0 _ _ _ _ _)
   | (with_reducible exact ih1 _ _ _ _ _)
   | (with_reducible exact LeO.refl _)
   | (with_reducible exact LeO.none _)
   | (with_reducible refine LeO.ite ?_ ?_)
   | (with_reducible refine LeO.bind ?_ (fun _ => ?_))
   | exact ih0 _ _ _ _ _
   | exact ih1 _ _ _ _ _
   | exact LeO.none _
   | refine LeO.ite ?_ ?_
   | refine LeO.bind ?_ (fun _ => ?_)
set_option maxHeartbeats 8000000 in
set_option maxRecDepth 100000 in
theorem R2_IntervalError.calls [EA] (k : Nat) (a0_0 : Bool) (a0_1 : Bool) (a0_2 : Int) (a0_3 : Int) (r : Int) (w : World) (h : R2_IntervalError.f k a0_0 a0_1 a0_2 a0_3 = some r) :
  Calls Tryd.prog 33 #[.agg #[.bool a0_0, .bool a0_1, .int .i64 a0_2, .int .i64 a0_3]] w fun e w' => e = .returned (.int .i64 r) ∧ Below w.heap.size w w' := by
 have hu49 := Tryd.underlying49
 have HB := am (Below.refl w.heap.size w)
 have H : (if a0_0 = true then (if a0_2 = 0 then (if a0_1 = true then (R2_IntervalError.j0 k (a0_3 != 0) a0_0 a0_1 a0_2 a0_3) else (R2_IntervalError.j0 k false a0_0 a0_1 a0_2 a0_3)) else (R2_IntervalError.j0 k true a0_0 a0_1 a0_2 a0_3)) else (if a0_1 = true then (R2_IntervalError.j0 k (a0_3 != 0) a0_0 a0_1 a0_2 a0_3) else (R2_IntervalError.j0 k false a0_0 a0_1 a0_2 a0_3))) = some r := h
 clear h
 have HC2 := am H
 clear H
 go_enter Tryd.func33, Tryd.ntmps33
 go_upto_region 1 with (first | ((with_reducible refine gate_dst (N := 1) rfl ?_); refine box_event ?hg (N := 1) ?hd (cs := #[.bool a0_0, .bool a0_1, .int .i64 a0_2, .int .i64 a0_3]) (t := 49) ?hr ?_; (case hd => rfl); (case hg => rfl); (case hr => first | (go_simp; done) | (go_simp; rfl)); intro gb125 hg w3 hbox hb; have n0_ := am (below_step pw hb); have n1_ := am (hbox); have n2_ := am ((by rw [hg]; exact (below_size pw) : w.heap.size ≤ gb125)); have n3_ := am ((by rw [hg]; exact (below_size pw) : w.heap.size ≤ gb125)); clear HB; have HB := n0_; have BK125 := n1_; have GW125 := n2_; have GE125 := n3_; clear n0_ n1_ n2_ n3_; clear hb hbox hg))
 (try simp only [Act.put, List.setIfInBounds_toArray, List.set_cons_zero, List.set_cons_succ])
 go_cut [20] (fun v20 wc => ∃ (kq : Nat) (x20_1 : Bool), v20 = .bool x20_1 ∧ Aside0 (R2_IntervalError.j0 kq x20_1 a0_0 a0_1 a0_2 a0_3 = some r) ∧ Aside0 (kq ≤ k) ∧ Aside0 (wc.heap[gb125]? = some (.cells #[.bool a0_0, .bool a0_1, .int .i64 a0_2, .int .i64 a0_3] 49 (0, 0))) ∧ Aside0 (Below w.heap.size w wc))
 case first =>
  have H := HC2.out
  clear HC2
  by_cases c4 : a0_0 = true
  ·subst c4
   have H1 : (if a0_2 = 0 then (if a0_1 = true then (R2_IntervalError.j0 k (a0_3 != 0) true a0_1 a0_2 a0_3) else (R2_IntervalError.j0 k false true a0_1 a0_2 a0_3)) else (R2_IntervalError.j0 k true true a0_1 a0_2 a0_3)) = some r := by rw [if_pos rfl] at H; exact H
   clear H
   have H := H1
   clear H1
   by_cases c5 : a0_2 = 0
   ·rw [if_pos c5] at H
    have c5b0 : (a0_2 == 0) = true := beq_iff_eq.mpr c5
    have c5b1 : (a0_2 != 0) = false := bne_eq_false_iff_eq.mpr c5
    clear c5
    (first | rw [c5b0] | (simp only [i64_w, i32_w]; rw [c5b0]) | skip)
    by_cases c6 : a0_1 = true
    ·subst c6
     have H1 : (R2_IntervalError.j0 k (a0_3 != 0) true true a0_2 a0_3) = some r := by rw [if_pos rfl] at H; exact H
     clear H
     have H := H1
     clear H1
     have H' := am H
     clear H
     have hcz7_0 : w3.cell? ⟨gb125, 0, none⟩ = some (.bool true) := bc BK125 0
     have hcz7_1 : w3.cell? ⟨gb125, 1, none⟩ = some (.bool true) := bc BK125 1
     have hcz7_2 : w3.cell? ⟨gb125, 2, none⟩ = some (.int .i64 a0_2) := bc BK125 2
     have hcz7_3 : w3.cell? ⟨gb125, 3, none⟩ = some (.int .i64 a0_3) := bc BK125 3
     have hfz7_0 := blk_frozen BK125.out 0
     have hfz7_1 := blk_frozen BK125.out 1
     have hfz7_2 := blk_frozen BK125.out 2
     have hfz7_3 := blk_frozen BK125.out 3
     go_wp2
     go_meet
     case rel => exact ⟨_, ((a0_3 != 0)), pr, H', ⟨by first | omega | exact Nat.le_refl _⟩, ⟨pk⟩, ⟨pw⟩⟩
    replace c6 := Bool.eq_false_iff.mpr c6
    subst c6
    have H1 : (R2_IntervalError.j0 k false true false a0_2 a0_3) = some r := by rw [if_neg (show ¬ (false = true) by decide)] at H; exact H
    clear H
    have H := H1
    clear H1
    have H' := am H
    clear H
    have hcz8_0 : w3.cell? ⟨gb125, 0, none⟩ = some (.bool true) := bc BK125 0
    have hcz8_1 : w3.cell? ⟨gb125, 1, none⟩ = some (.bool false) := bc BK125 1
    have hcz8_2 : w3.cell? ⟨gb125, 2, none⟩ = some (.int .i64 a0_2) := bc BK125 2
    have hcz8_3 : w3.cell? ⟨gb125, 3, none⟩ = some (.int .i64 a0_3) := bc BK125 3
    have hfz8_0 := blk_frozen BK125.out 0
    have hfz8_1 := blk_frozen BK125.out 1
    have hfz8_2 := blk_frozen BK125.out 2
    have hfz8_3 := blk_frozen BK125.out 3
    go_wp2
    go_meet
    case rel => exact ⟨_, (false), pr, H', ⟨by first | omega | exact Nat.le_refl _⟩, ⟨pk⟩, ⟨pw⟩⟩
   rw [if_neg c5] at H
   have c5b0 : (a0_2 == 0) = false := beq_eq_false_iff_ne.mpr c5
   have c5b1 : (a0_2 != 0) = true := bne_iff_ne.mpr c5
   (first | rw [c5b0] | (simp only [i64_w, i32_w]; rw [c5b0]) | skip)
   have H' := am H
   clear H
   have hcz9_0 : w3.cell? ⟨gb125, 0, none⟩ = some (.bool true) := bc BK125 0
   have hcz9_1 : w3.cell? ⟨gb125, 1, none⟩ = some (.bool a0_1) := bc BK125 1
   have hcz9_2 : w3.cell? ⟨gb125, 2, none⟩ = some (.int .i64 a0_2) := bc BK125 2
   have hcz9_3 : w3.cell? ⟨gb125, 3, none⟩ = some (.int .i64 a0_3) := bc BK125 3
   have hfz9_0 := blk_frozen BK125.out 0
   have hfz9_1 := blk_frozen BK125.out 1
   have hfz9_2 := blk_frozen BK125.out 2
   have hfz9_3 := blk_frozen BK125.out 3
   go_wp2
   go_meet
   case rel => exact ⟨_, (true), pr, H', ⟨by first | omega | exact Nat.le_refl _⟩, ⟨pk⟩, ⟨pw⟩⟩
  replace c4 := Bool.eq_false_iff.mpr c4
  subst c4
  have H1 : (if a0_1 = true then (R2_IntervalError.j0 k (a0_3 != 0) false a0_1 a0_2 a0_3) else (R2_IntervalError.j0 k false false a0_1 a0_2 a0_3)) = some r := by rw [if_neg (show ¬ (false = true) by decide)] at H; exact H
  clear H
  have H := H1
  clear H1
  by_cases c10 : a0_1 = true
  ·subst c10
   have H1 : (R2_IntervalError.j0 k (a0_3 != 0) false true a0_2 a0_3) = some r := by rw [if_pos rfl] at H; exact H
   clear H
   have H := H1
   clear H1
   have H' := am H
   clear H
   have hcz11_0 : w3.cell? ⟨gb125, 0, none⟩ = some (.bool false) := bc BK125 0
   have hcz11_1 : w3.cell? ⟨gb125, 1, none⟩ = some (.bool true) := bc BK125 1
   have hcz11_2 : w3.cell? ⟨gb125, 2, none⟩ = some (.int .i64 a0_2) := bc BK125 2
   have hcz11_3 : w3.cell? ⟨gb125, 3, none⟩ = some (.int .i64 a0_3) := bc BK125 3
   have hfz11_0 := blk_frozen BK125.out 0
   have hfz11_1 := blk_frozen BK125.out 1
   have hfz11_2 := blk_frozen BK125.out 2
   have hfz11_3 := blk_frozen BK125.out 3
   go_wp2
   go_meet
   case rel => exact ⟨_, ((a0_3 != 0)), pr, H', ⟨by first | omega | exact Nat.le_refl _⟩, ⟨pk⟩, ⟨pw⟩⟩
  replace c10 := Bool.eq_false_iff.mpr c10
  subst c10
  have H1 : (R2_IntervalError.j0 k false false false a0_2 a0_3) = some r := by rw [if_neg (show ¬ (false = true) by decide)] at H; exact H
  clear H
  have H := H1
  clear H1
  have H' := am H
  clear H
  have hcz12_0 : w3.cell? ⟨gb125, 0, none⟩ = some (.bool false) := bc BK125 0
  have hcz12_1 : w3.cell? ⟨gb125, 1, none⟩ = some (.bool false) := bc BK125 1
  have hcz12_2 : w3.cell? ⟨gb125, 2, none⟩ = some (.int .i64 a0_2) := bc BK125 2
  have hcz12_3 : w3.cell? ⟨gb125, 3, none⟩ = some (.int .i64 a0_3) := bc BK125 3
  have hfz12_0 := blk_frozen BK125.out 0
  have hfz12_1 := blk_frozen BK125.out 1
  have hfz12_2 := blk_frozen BK125.out 2
  have hfz12_3 := blk_frozen BK125.out 3
  go_wp2
  go_meet
  case rel => exact ⟨_, (false), pr, H', ⟨by first | omega | exact Nat.le_refl _⟩, ⟨pk⟩, ⟨pw⟩⟩
 clear HC2
 try clear c1
 try clear p2
 try clear c3
 try clear c4
 try clear c5
 try clear c5b0
 try clear c5b1
 try clear c6
 try clear c10
 try clear hcz11_0
 try clear hcz11_1
 try clear hcz11_2
 try clear hcz11_3
 try clear hcz12_0
 try clear hcz12_1
 try clear hcz12_2
 try clear hcz12_3
 try clear hcz7_0
 try clear hcz7_1
 try clear hcz7_2
 try clear hcz7_3
 try clear hcz8_0
 try clear hcz8_1
 try clear hcz8_2
 try clear hcz8_3
 try clear hcz9_0
 try clear hcz9_1
 try clear hcz9_2
 try clear hcz9_3
 try clear hfz11_0
 try clear hfz11_1
 try clear hfz11_2
 try clear hfz11_3
 try clear hfz12_0
 try clear hfz12_1
 try clear hfz12_2
 try clear hfz12_3
 try clear hfz7_0
 try clear hfz7_1
 try clear hfz7_2
 try clear hfz7_3
 try clear hfz8_0
 try clear hfz8_1
 try clear hfz8_2
 try clear hfz8_3
 try clear hfz9_0
 try clear hfz9_1
 try clear hfz9_2
 try clear hfz9_3
 obtain ⟨kq, x20_1, rfl, HA, HJ1, BK125, HB⟩ := hcut
 cases kq with
 | zero => exact absurd HA.out (by simp [R2_IntervalError.j0])
 | succ kj1 =>
  have H := HA.out
  clear HA
  simp only [R2_IntervalError.j0] at H
  by_cases c13 : x20_1 = true
  ·subst c13
   have H1 : (some 3) = some r := by rw [if_pos rfl] at H; exact H
   clear H
   have H := H1
   clear H1
   obtain rfl := Option.some.inj H
   go_wp2
   go_ret
   exact ⟨pe, pw⟩
  replace c13 := Bool.eq_false_iff.mpr c13
  subst c13
  have H1 : (if a0_0 = true then (R2_IntervalError.j1 kj1 false a0_0 a0_1 a0_2 a0_3) else (if a0_1 = true then (R2_IntervalError.j1 kj1 false a0_0 a0_1 a0_2 a0_3) else (R2_IntervalError.j1 kj1 (decide (a0_2 > a0_3)) a0_0 a0_1 a0_2 a0_3))) = some r := by rw [if_neg (show ¬ (false = true) by decide)] at H; exact H
  clear H
  have H := H1
  clear H1
  have HC14 := am H
  clear H
  go_upto_region 3 with (fail)
  go_cut [35] (fun v35 wc => ∃ (kq : Nat) (x35_13 : Bool), v35 = .bool x35_13 ∧ Aside0 (R2_IntervalError.j1 kq x35_13 a0_0 a0_1 a0_2 a0_3 = some r) ∧ Aside0 (kq ≤ kj1) ∧ Aside0 (wc.heap[gb125]? = some (.cells #[.bool a0_0, .bool a0_1, .int .i64 a0_2, .int .i64 a0_3] 49 (0, 0))) ∧ Aside0 (Below w.heap.size w wc))
  case first =>
   have H := HC14.out
   clear HC14
   by_cases c15 : a0_0 = true
   ·subst c15
    have H1 : (R2_IntervalError.j1 kj1 false true a0_1 a0_2 a0_3) = some r := by rw [if_pos rfl] at H; exact H
    clear H
    have H := H1
    clear H1
    have H' := am H
    clear H
    have hcz16_0 : wc.cell? ⟨gb125, 0, none⟩ = some (.bool true) := bc BK125 0
    have hcz16_1 : wc.cell? ⟨gb125, 1, none⟩ = some (.bool a0_1) := bc BK125 1
    have hcz16_2 : wc.cell? ⟨gb125, 2, none⟩ = some (.int .i64 a0_2) := bc BK125 2
    have hcz16_3 : wc.cell? ⟨gb125, 3, none⟩ = some (.int .i64 a0_3) := bc BK125 3
    have hfz16_0 := blk_frozen BK125.out 0
    have hfz16_1 := blk_frozen BK125.out 1
    have hfz16_2 := blk_frozen BK125.out 2
    have hfz16_3 := blk_frozen BK125.out 3
    go_wp2
    go_meet
    case rel => exact ⟨_, (false), pr, H', ⟨by have := HJ1.out; first | omega | exact Nat.le_refl _⟩, ⟨pk⟩, ⟨pw⟩⟩
   replace c15 := Bool.eq_false_iff.mpr c15
   subst c15
   have H1 : (if a0_1 = true then (R2_IntervalError.j1 kj1 false false a0_1 a0_2 a0_3) else (R2_IntervalError.j1 kj1 (decide (a0_2 > a0_3)) false a0_1 a0_2 a0_3)) = some r := by rw [if_neg (show ¬ (false = true) by decide)] at H; exact H
   clear H
   have H := H1
   clear H1
   by_cases c17 : a0_1 = true
   ·subst c17
    have H1 : (R2_IntervalError.j1 kj1 false false true a0_2 a0_3) = some r := by rw [if_pos rfl] at H; exact H
    clear H
    have H := H1
    clear H1
    have H' := am H
    clear H
    have hcz18_0 : wc.cell? ⟨gb125, 0, none⟩ = some (.bool false) := bc BK125 0
    have hcz18_1 : wc.cell? ⟨gb125, 1, none⟩ = some (.bool true) := bc BK125 1
    have hcz18_2 : wc.cell? ⟨gb125, 2, none⟩ = some (.int .i64 a0_2) := bc BK125 2
    have hcz18_3 : wc.cell? ⟨gb125, 3, none⟩ = some (.int .i64 a0_3) := bc BK125 3
    have hfz18_0 := blk_frozen BK125.out 0
    have hfz18_1 := blk_frozen BK125.out 1
    have hfz18_2 := blk_frozen BK125.out 2
    have hfz18_3 := blk_frozen BK125.out 3
    go_wp2
    go_meet
    case rel => exact ⟨_, (false), pr, H', ⟨by have := HJ1.out; first | omega | exact Nat.le_refl _⟩, ⟨pk⟩, ⟨pw⟩⟩
   replace c17 := Bool.eq_false_iff.mpr c17
   subst c17
   have H1 : (R2_IntervalError.j1 kj1 (decide (a0_2 > a0_3)) false false a0_2 a0_3) = some r := by rw [if_neg (show ¬ (false = true) by decide)] at H; exact H
   clear H
   have H := H1
   clear H1
   have H' := am H
   clear H
   have hcz19_0 : wc.cell? ⟨gb125, 0, none⟩ = some (.bool false) := bc BK125 0
   have hcz19_1 : wc.cell? ⟨gb125, 1, none⟩ = some (.bool false) := bc BK125 1
   have hcz19_2 : wc.cell? ⟨gb125, 2, none⟩ = some (.int .i64 a0_2) := bc BK125 2
   have hcz19_3 : wc.cell? ⟨gb125, 3, none⟩ = some (.int .i64 a0_3) := bc BK125 3
   have hfz19_0 := blk_frozen BK125.out 0
   have hfz19_1 := blk_frozen BK125.out 1
   have hfz19_2 := blk_frozen BK125.out 2
   have hfz19_3 := blk_frozen BK125.out 3
   go_wp2
   go_meet
   case rel => exact ⟨_, (decide (a0_2 > a0_3)), pr, H', ⟨by have := HJ1.out; first | omega | exact Nat.le_refl _⟩, ⟨pk⟩, ⟨pw⟩⟩
  clear HC14
  try clear c1
  try clear p2
  try clear c3
  try clear c4
  try clear c5
  try clear c5b0
  try clear c5b1
  try clear c6
  try clear c10
  try clear c13
  try clear c15
  try clear c17
  try clear hcz11_0
  try clear hcz11_1
  try clear hcz11_2
  try clear hcz11_3
  try clear hcz12_0
  try clear hcz12_1
  try clear hcz12_2
  try clear hcz12_3
  try clear hcz16_0
  try clear hcz16_1
  try clear hcz16_2
  try clear hcz16_3
  try clear hcz18_0
  try clear hcz18_1
  try clear hcz18_2
  try clear hcz18_3
  try clear hcz19_0
  try clear hcz19_1
  try clear hcz19_2
  try clear hcz19_3
  try clear hcz7_0
  try clear hcz7_1
  try clear hcz7_2
  try clear hcz7_3
  try clear hcz8_0
  try clear hcz8_1
  try clear hcz8_2
  try clear hcz8_3
  try clear hcz9_0
  try clear hcz9_1
  try clear hcz9_2
  try clear hcz9_3
  try clear hfz11_0
  try clear hfz11_1
  try clear hfz11_2
  try clear hfz11_3
  try clear hfz12_0
  try clear hfz12_1
  try clear hfz12_2
  try clear hfz12_3
  try clear hfz16_0
  try clear hfz16_1
  try clear hfz16_2
  try clear hfz16_3
  try clear hfz18_0
  try clear hfz18_1
  try clear hfz18_2
  try clear hfz18_3
  try clear hfz19_0
  try clear hfz19_1
  try clear hfz19_2
  try clear hfz19_3
  try clear hfz7_0
  try clear hfz7_1
  try clear hfz7_2
  try clear hfz7_3
  try clear hfz8_0
  try clear hfz8_1
  try clear hfz8_2
  try clear hfz8_3
  try clear hfz9_0
  try clear hfz9_1
  try clear hfz9_2
  try clear hfz9_3
  try clear p2
  obtain ⟨kq, x35_13, rfl, HA, HJ13, BK125, HB⟩ := hcut
  cases kq with
  | zero => exact absurd HA.out (by simp [R2_IntervalError.j1])
  | succ kj13 =>
   have H := HA.out
   clear HA
   simp only [R2_IntervalError.j1] at H
   by_cases c20 : x35_13 = true
   ·subst c20
    have H1 : (some 3) = some r := by rw [if_pos rfl] at H; exact H
    clear H
    have H := H1
    clear H1
    obtain rfl := Option.some.inj H
    go_wp2
    go_ret
    exact ⟨pe, pw⟩
   replace c20 := Bool.eq_false_iff.mpr c20
   subst c20
   have H1 : ((R2_Far.f a0_2 1099511627776).bind fun t126 => ((R2_Far.f a0_3 1099511627776).bind fun t127 => (if t126 = true then (some 2) else (if t127 = true then (some 2) else (some 0))))) = some r := by rw [if_neg (show ¬ (false = true) by decide)] at H; exact H
   clear H
   have H := H1
   clear H1
   replace H := Option.bind_eq_some_iff.mp H
   obtain ⟨t126, A210, H⟩ := H
   replace H : ((R2_Far.f a0_3 1099511627776).bind fun t127 => (if t126 = true then (some 2) else (if t127 = true then (some 2) else (some 0)))) = some r := H
   have A21 := am A210
   clear A210
   replace H := Option.bind_eq_some_iff.mp H
   obtain ⟨t127, A220, H⟩ := H
   replace H : (if t126 = true then (some 2) else (if t127 = true then (some 2) else (some 0))) = some r := H
   have A22 := am A220
   clear A220
   by_cases c23 : t126 = true
   ·subst c23
    have H1 : (some 2) = some r := by rw [if_pos rfl] at H; exact H
    clear H
    have H := H1
    clear H1
    obtain rfl := Option.some.inj H
    have hcz24_0 : wc.cell? ⟨gb125, 0, none⟩ = some (.bool a0_0) := bc BK125 0
    have hcz24_1 : wc.cell? ⟨gb125, 1, none⟩ = some (.bool a0_1) := bc BK125 1
    have hcz24_2 : wc.cell? ⟨gb125, 2, none⟩ = some (.int .i64 a0_2) := bc BK125 2
    have hcz24_3 : wc.cell? ⟨gb125, 3, none⟩ = some (.int .i64 a0_3) := bc BK125 3
    have hfz24_0 := blk_frozen BK125.out 0
    have hfz24_1 := blk_frozen BK125.out 1
    have hfz24_2 := blk_frozen BK125.out 2
    have hfz24_3 := blk_frozen BK125.out 3
    go_wp2_with (first | ((with_reducible refine gate_callee (f := 22) rfl ?_); refine goesL_ (some 38) rfl rfl Tryd.func22 kk rfl #[.int .i64 a0_2, .int .i64 1099511627776] rfl (by (try simp only [List.map_toArray, List.map_cons, List.map_nil]); first | done | rfl | (simp only [List.length_drop, List.length_take]; rfl)) ?_; (with_reducible refine (R2_Far.calls a0_2 1099511627776 true _ A21.out).mono ?_); rintro e w' ⟨rfl, ⟨nd, rfl⟩⟩; refine ⟨_, rfl, ?_⟩) | ((with_reducible refine gate_callee (f := 22) rfl ?_); refine goesL_ (some 41) rfl rfl Tryd.func22 kk rfl #[.int .i64 a0_3, .int .i64 1099511627776] rfl (by (try simp only [List.map_toArray, List.map_cons, List.map_nil]); first | done | rfl | (simp only [List.length_drop, List.length_take]; rfl)) ?_; (with_reducible refine (R2_Far.calls a0_3 1099511627776 t127 _ A22.out).mono ?_); rintro e w' ⟨rfl, ⟨nd, rfl⟩⟩; refine ⟨_, rfl, ?_⟩))
    go_ret
    exact ⟨pe, pw⟩
   replace c23 := Bool.eq_false_iff.mpr c23
   subst c23
   have H1 : (if t127 = true then (some 2) else (some 0)) = some r := by rw [if_neg (show ¬ (false = true) by decide)] at H; exact H
   clear H
   have H := H1
   clear H1
   by_cases c25 : t127 = true
   ·subst c25
    have H1 : (some 2) = some r := by rw [if_pos rfl] at H; exact H
    clear H
    have H := H1
    clear H1
    obtain rfl := Option.some.inj H
    have hcz26_0 : wc.cell? ⟨gb125, 0, none⟩ = some (.bool a0_0) := bc BK125 0
    have hcz26_1 : wc.cell? ⟨gb125, 1, none⟩ = some (.bool a0_1) := bc BK125 1
    have hcz26_2 : wc.cell? ⟨gb125, 2, none⟩ = some (.int .i64 a0_2) := bc BK125 2
    have hcz26_3 : wc.cell? ⟨gb125, 3, none⟩ = some (.int .i64 a0_3) := bc BK125 3
    have hfz26_0 := blk_frozen BK125.out 0
    have hfz26_1 := blk_frozen BK125.out 1
    have hfz26_2 := blk_frozen BK125.out 2
    have hfz26_3 := blk_frozen BK125.out 3
    go_wp2_with (first | ((with_reducible refine gate_callee (f := 22) rfl ?_); refine goesL_ (some 38) rfl rfl Tryd.func22 kk rfl #[.int .i64 a0_2, .int .i64 1099511627776] rfl (by (try simp only [List.map_toArray, List.map_cons, List.map_nil]); first | done | rfl | (simp only [List.length_drop, List.length_take]; rfl)) ?_; (with_reducible refine (R2_Far.calls a0_2 1099511627776 false _ A21.out).mono ?_); rintro e w' ⟨rfl, ⟨nd, rfl⟩⟩; refine ⟨_, rfl, ?_⟩) | ((with_reducible refine gate_callee (f := 22) rfl ?_); refine goesL_ (some 41) rfl rfl Tryd.func22 kk rfl #[.int .i64 a0_3, .int .i64 1099511627776] rfl (by (try simp only [List.map_toArray, List.map_cons, List.map_nil]); first | done | rfl | (simp only [List.length_drop, List.length_take]; rfl)) ?_; (with_reducible refine (R2_Far.calls a0_3 1099511627776 true _ A22.out).mono ?_); rintro e w' ⟨rfl, ⟨nd, rfl⟩⟩; refine ⟨_, rfl, ?_⟩))
    go_ret
    exact ⟨pe, pw⟩
   replace c25 := Bool.eq_false_iff.mpr c25
   subst c25
   have H1 : (some 0) = some r := by rw [if_neg (show ¬ (false = true) by decide)] at H; exact H
   clear H
   have H := H1
   clear H1
   obtain rfl := Option.some.inj H
   have hcz27_0 : wc.cell? ⟨gb125, 0, none⟩ = some (.bool a0_0) := bc BK125 0
   have hcz27_1 : wc.cell? ⟨gb125, 1, none⟩ = some (.bool a0_1) := bc BK125 1
   have hcz27_2 : wc.cell? ⟨gb125, 2, none⟩ = some (.int .i64 a0_2) := bc BK125 2
   have hcz27_3 : wc.cell? ⟨gb125, 3, none⟩ = some (.int .i64 a0_3) := bc BK125 3
   have hfz27_0 := blk_frozen BK125.out 0
   have hfz27_1 := blk_frozen BK125.out 1
   have hfz27_2 := blk_frozen BK125.out 2
   have hfz27_3 := blk_frozen BK125.out 3
   go_wp2_with (first | ((with_reducible refine gate_callee (f := 22) rfl ?_); refine goesL_ (some 38) rfl rfl Tryd.func22 kk rfl #[.int .i64 a0_2, .int .i64 1099511627776] rfl (by (try simp only [List.map_toArray, List.map_cons, List.map_nil]); first | done | rfl | (simp only [List.length_drop, List.length_take]; rfl)) ?_; (with_reducible refine (R2_Far.calls a0_2 1099511627776 false _ A21.out).mono ?_); rintro e w' ⟨rfl, ⟨nd, rfl⟩⟩; refine ⟨_, rfl, ?_⟩) | ((with_reducible refine gate_callee (f := 22) rfl ?_); refine goesL_ (some 41) rfl rfl Tryd.func22 kk rfl #[.int .i64 a0_3, .int .i64 1099511627776] rfl (by (try simp only [List.map_toArray, List.map_cons, List.map_nil]); first | done | rfl | (simp only [List.length_drop, List.length_take]; rfl)) ?_; (with_reducible refine (R2_Far.calls a0_3 1099511627776 false _ A22.out).mono ?_); rintro e w' ⟨rfl, ⟨nd, rfl⟩⟩; refine ⟨_, rfl, ?_⟩))
   go_ret
   exact ⟨pe, pw⟩

/-! ### R2_TwoIntervals: function 29 -/
def R2_TwoIntervals.f (k : Nat) (a0_0 : Bool) (a0_1 : Bool) (a0_2 : Int) (a0_3 : Int) (a1_0 : Bool) (a1_1 : Bool) (a1_2 : Int) (a1_3 : Int) : Option (Int) := (R2_IntervalError.f k a0_0 a0_1 a0_2 a0_3).bind fun t130 => (if t130 = 0 then ((R2_IntervalError.f k a1_0 a1_1 a1_2 a1_3).bind fun t131 => (some t131)) else (some t130))
theorem R2_TwoIntervals.mono : ∀ a0 a1 a2 a3 a4 a5 a6 a7 k, LeO (R2_TwoIntervals.f k a0 a1 a2 a3 a4 a5 a6 a7) (R2_TwoIntervals.f (k + 1) a0 a1 a2 a3 a4 a5 a6 a7) := by
 intro a0 a1 a2 a3 a4 a5 a6 a7 k
 unfold R2_TwoIntervals.f
 repeat' first
   | (with_reducible exact R2_IntervalError.mono _ _ _ _ _)
   | (with_reducible exact LeO.refl _)
   | (with_reducible exact LeO.none _)
   | (with_reducible refine LeO.ite ?_ ?_)
   | (with_reducible refine LeO.bind ?_ (fun _ => ?_))
   | exact R2_IntervalError.mono _ _ _ _ _
   | exact LeO.none _
   | refine LeO.ite ?_ ?_
   | refine LeO.bind ?_ (fun _ => ?_)
set_option maxHeartbeats 8000000 in
set_option maxRecDepth 100000 in
theorem R2_TwoIntervals.calls [EA] (k : Nat) (a0_0 : Bool) (a0_1 : Bool) (a0_2 : Int) (a0_3 : Int) (a1_0 : Bool) (a1_1 : Bool) (a1_2 : Int) (a1_3 : Int) (r : Int) (w : World) (h : R2_TwoIntervals.f k a0_0 a0_1 a0_2 a0_3 a1_0 a1_1 a1_2 a1_3 = some r) :
  Calls Tryd.prog 29 #[.agg #[.bool a0_0, .bool a0_1, .int .i64 a0_2, .int .i64 a0_3], .agg #[.bool a1_0, .bool a1_1, .int .i64 a1_2, .int .i64 a1_3]] w fun e w' => e = .returned (.int .i64 r) ∧ Below w.heap.size w w' := by
 have hu49 := Tryd.underlying49
 have HB := am (Below.refl w.heap.size w)
 have H : ((R2_IntervalError.f k a0_0 a0_1 a0_2 a0_3).bind fun t130 => (if t130 = 0 then ((R2_IntervalError.f k a1_0 a1_1 a1_2 a1_3).bind fun t131 => (some t131)) else (some t130))) = some r := h
 clear h
 replace H := Option.bind_eq_some_iff.mp H
 obtain ⟨t130, A30, H⟩ := H
 replace H : (if t130 = 0 then ((R2_IntervalError.f k a1_0 a1_1 a1_2 a1_3).bind fun t131 => (some t131)) else (some t130)) = some r := H
 have A3 := am A30
 clear A30
 by_cases c4 : t130 = 0
 ·rw [if_pos c4] at H
  have c4b0 : (t130 == 0) = true := beq_iff_eq.mpr c4
  have c4b1 : (t130 != 0) = false := bne_eq_false_iff_eq.mpr c4
  clear c4
  replace H := Option.bind_eq_some_iff.mp H
  obtain ⟨t131, A50, H⟩ := H
  replace H : (some t131) = some r := H
  have A5 := am A50
  clear A50
  obtain rfl := Option.some.inj H
  go_enter Tryd.func29, Tryd.ntmps29
  go_wp2_with (first | ((with_reducible refine gate_dst (N := 2) rfl ?_); refine box_event ?hg (N := 2) ?hd (cs := #[.bool a0_0, .bool a0_1, .int .i64 a0_2, .int .i64 a0_3]) (t := 49) ?hr ?_; (case hd => rfl); (case hg => rfl); (case hr => first | (go_simp; done) | (go_simp; rfl)); intro gb128 hg w6 hbox hb; have n0_ := am (below_step pw hb); have n1_ := am (hbox); have n2_ := am ((by rw [hg]; exact (below_size pw) : w.heap.size ≤ gb128)); have n3_ := am ((by rw [hg]; exact (below_size pw) : w.heap.size ≤ gb128)); clear HB; have HB := n0_; have BK128 := n1_; have GW128 := n2_; have GE128 := n3_; clear n0_ n1_ n2_ n3_; clear hb hbox hg) | ((with_reducible refine gate_dst (N := 3) rfl ?_); refine box_event ?hg (N := 3) ?hd (cs := #[.bool a1_0, .bool a1_1, .int .i64 a1_2, .int .i64 a1_3]) (t := 49) ?hr ?_; (case hd => rfl); (case hg => rfl); (case hr => first | (go_simp; done) | (go_simp; rfl)); intro gb129 hg w7 hbox hb; have n0_ := bb BK128 hb; have n1_ := am (below_step pw hb); have n2_ := am (hbox); have n3_ := am ((by rw [hg]; exact (below_size pw) : w.heap.size ≤ gb129)); have n4_ := am ((by rw [hg]; exact (below_size pw) : w.heap.size ≤ gb129)); have n5_ := am ((by rw [hg]; exact Nat.ne_of_lt (blk_lt pk) : gb128 ≠ gb129)); have n6_ := am ((by rw [hg]; exact Nat.ne_of_gt (blk_lt pk) : gb129 ≠ gb128)); clear BK128; clear HB; have BK128 := n0_; have HB := n1_; have BK129 := n2_; have GW129 := n3_; have GE129 := n4_; have NB128_129 := n5_; have NB129_128 := n6_; clear n0_ n1_ n2_ n3_ n4_ n5_ n6_; clear hb hbox hg; have hnb8 := NB128_129.out; have hnc8 := NB129_128.out; have hcz9_0 : w7.cell? ⟨gb128, 0, none⟩ = some (.bool a0_0) := bc BK128 0; have hcz9_1 : w7.cell? ⟨gb128, 1, none⟩ = some (.bool a0_1) := bc BK128 1; have hcz9_2 : w7.cell? ⟨gb128, 2, none⟩ = some (.int .i64 a0_2) := bc BK128 2; have hcz9_3 : w7.cell? ⟨gb128, 3, none⟩ = some (.int .i64 a0_3) := bc BK128 3; have hfz9_0 := blk_frozen BK128.out 0; have hfz9_1 := blk_frozen BK128.out 1; have hfz9_2 := blk_frozen BK128.out 2; have hfz9_3 := blk_frozen BK128.out 3) | ((with_reducible refine gate_callee (f := 33) rfl ?_); refine goesL_ (some 7) rfl rfl Tryd.func33 kk rfl #[.agg #[.bool a0_0, .bool a0_1, .int .i64 a0_2, .int .i64 a0_3]] rfl (by (try simp only [List.map_toArray, List.map_cons, List.map_nil]); first | done | rfl | (simp only [List.length_drop, List.length_take]; rfl)) ?_; (with_reducible refine (R2_IntervalError.calls k a0_0 a0_1 a0_2 a0_3 t130 _ A3.out).mono ?_); rintro e w10 ⟨rfl, hb⟩; refine ⟨_, rfl, ?_⟩; have n0_ := bb BK128 hb; have n1_ := bb BK129 hb; have n2_ := am (below_step pw hb); clear BK128; clear BK129; clear HB; have BK128 := n0_; have BK129 := n1_; have HB := n2_; clear n0_ n1_ n2_; (try clear hb); (try clear hb2); (try clear hk); (try clear hi); have hcz11_0 : w10.cell? ⟨gb129, 0, none⟩ = some (.bool a1_0) := bc BK129 0; have hcz11_1 : w10.cell? ⟨gb129, 1, none⟩ = some (.bool a1_1) := bc BK129 1; have hcz11_2 : w10.cell? ⟨gb129, 2, none⟩ = some (.int .i64 a1_2) := bc BK129 2; have hcz11_3 : w10.cell? ⟨gb129, 3, none⟩ = some (.int .i64 a1_3) := bc BK129 3; have hfz11_0 := blk_frozen BK129.out 0; have hfz11_1 := blk_frozen BK129.out 1; have hfz11_2 := blk_frozen BK129.out 2; have hfz11_3 := blk_frozen BK129.out 3) | ((with_reducible refine gate_callee (f := 33) rfl ?_); refine goesL_ (some 11) rfl rfl Tryd.func33 kk rfl #[.agg #[.bool a1_0, .bool a1_1, .int .i64 a1_2, .int .i64 a1_3]] rfl (by (try simp only [List.map_toArray, List.map_cons, List.map_nil]); first | done | rfl | (simp only [List.length_drop, List.length_take]; rfl)) ?_; (with_reducible refine (R2_IntervalError.calls k a1_0 a1_1 a1_2 a1_3 t131 _ A5.out).mono ?_); rintro e w12 ⟨rfl, hb⟩; refine ⟨_, rfl, ?_⟩; have n0_ := bb BK128 hb; have n1_ := bb BK129 hb; have n2_ := am (below_step pw hb); clear BK128; clear BK129; clear HB; have BK128 := n0_; have BK129 := n1_; have HB := n2_; clear n0_ n1_ n2_; (try clear hb); (try clear hb2); (try clear hk); (try clear hi)))
  go_ret
  exact ⟨pe, pw⟩
 rw [if_neg c4] at H
 have c4b0 : (t130 == 0) = false := beq_eq_false_iff_ne.mpr c4
 have c4b1 : (t130 != 0) = true := bne_iff_ne.mpr c4
 obtain rfl := Option.some.inj H
 go_enter Tryd.func29, Tryd.ntmps29
 go_wp2_with (first | ((with_reducible refine gate_dst (N := 2) rfl ?_); refine box_event ?hg (N := 2) ?hd (cs := #[.bool a0_0, .bool a0_1, .int .i64 a0_2, .int .i64 a0_3]) (t := 49) ?hr ?_; (case hd => rfl); (case hg => rfl); (case hr => first | (go_simp; done) | (go_simp; rfl)); intro gb128 hg w13 hbox hb; have n0_ := am (below_step pw hb); have n1_ := am (hbox); have n2_ := am ((by rw [hg]; exact (below_size pw) : w.heap.size ≤ gb128)); have n3_ := am ((by rw [hg]; exact (below_size pw) : w.heap.size ≤ gb128)); clear HB; have HB := n0_; have BK128 := n1_; have GW128 := n2_; have GE128 := n3_; clear n0_ n1_ n2_ n3_; clear hb hbox hg) | ((with_reducible refine gate_dst (N := 3) rfl ?_); refine box_event ?hg (N := 3) ?hd (cs := #[.bool a1_0, .bool a1_1, .int .i64 a1_2, .int .i64 a1_3]) (t := 49) ?hr ?_; (case hd => rfl); (case hg => rfl); (case hr => first | (go_simp; done) | (go_simp; rfl)); intro gb129 hg w14 hbox hb; have n0_ := bb BK128 hb; have n1_ := am (below_step pw hb); have n2_ := am (hbox); have n3_ := am ((by rw [hg]; exact (below_size pw) : w.heap.size ≤ gb129)); have n4_ := am ((by rw [hg]; exact (below_size pw) : w.heap.size ≤ gb129)); have n5_ := am ((by rw [hg]; exact Nat.ne_of_lt (blk_lt pk) : gb128 ≠ gb129)); have n6_ := am ((by rw [hg]; exact Nat.ne_of_gt (blk_lt pk) : gb129 ≠ gb128)); clear BK128; clear HB; have BK128 := n0_; have HB := n1_; have BK129 := n2_; have GW129 := n3_; have GE129 := n4_; have NB128_129 := n5_; have NB129_128 := n6_; clear n0_ n1_ n2_ n3_ n4_ n5_ n6_; clear hb hbox hg; have hnb15 := NB128_129.out; have hnc15 := NB129_128.out; have hcz16_0 : w14.cell? ⟨gb128, 0, none⟩ = some (.bool a0_0) := bc BK128 0; have hcz16_1 : w14.cell? ⟨gb128, 1, none⟩ = some (.bool a0_1) := bc BK128 1; have hcz16_2 : w14.cell? ⟨gb128, 2, none⟩ = some (.int .i64 a0_2) := bc BK128 2; have hcz16_3 : w14.cell? ⟨gb128, 3, none⟩ = some (.int .i64 a0_3) := bc BK128 3; have hfz16_0 := blk_frozen BK128.out 0; have hfz16_1 := blk_frozen BK128.out 1; have hfz16_2 := blk_frozen BK128.out 2; have hfz16_3 := blk_frozen BK128.out 3) | ((with_reducible refine gate_callee (f := 33) rfl ?_); refine goesL_ (some 7) rfl rfl Tryd.func33 kk rfl #[.agg #[.bool a0_0, .bool a0_1, .int .i64 a0_2, .int .i64 a0_3]] rfl (by (try simp only [List.map_toArray, List.map_cons, List.map_nil]); first | done | rfl | (simp only [List.length_drop, List.length_take]; rfl)) ?_; (with_reducible refine (R2_IntervalError.calls k a0_0 a0_1 a0_2 a0_3 t130 _ A3.out).mono ?_); rintro e w17 ⟨rfl, hb⟩; refine ⟨_, rfl, ?_⟩; have n0_ := bb BK128 hb; have n1_ := bb BK129 hb; have n2_ := am (below_step pw hb); clear BK128; clear BK129; clear HB; have BK128 := n0_; have BK129 := n1_; have HB := n2_; clear n0_ n1_ n2_; (try clear hb); (try clear hb2); (try clear hk); (try clear hi)))
 go_ret
 exact ⟨pe, pw⟩

end Go.Proofs.YtcalcnfppnbooaaDoor.R
