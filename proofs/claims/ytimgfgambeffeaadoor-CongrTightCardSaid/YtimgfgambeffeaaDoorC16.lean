-- Written by wip/xprint.py (the session's program over the kit's print).
import Derived.Test.YtimgfgambeffeaaDoorEb
import Derived.Test.YtimgfgambeffeaaDoorCd
import Derived.Test.YtimgfgambeffeaaDoorC0
import Derived.Test.YtimgfgambeffeaaDoorC1
import Derived.Test.YtimgfgambeffeaaDoorC6
namespace Go.Proofs.YtimgfgambeffeaaDoor.C
open Go.RowKit Go.Proofs.YtimgfgambeffeaaDoorW.PrintWords Go.Proofs.YtimgfgambeffeaaDoorW.PrintLast Go.Proofs.YtimgfgambeffeaaDoorW.PrintMore Go.Proofs.Rcg
attribute [local go_sem] max2_int min2_int max_two min_two max_three min_three max_four min_four   -- for this text's walks alone
set_option linter.unusedVariables false
set_option linter.unusedSimpArgs false

attribute [local go_sem high] eqA23
/-! ### R2_IntervalError: function 13 -/
mutual
def R2_IntervalError.j0 : Nat → Bool → Bool → Bool → Int → Int → Option (Int)
 | 0, _, _, _, _, _ => none
 | k + 1, x20, x408000, x408001, x408002, x408003 => if x20 = true then (some 3) else (if x408000 = true then (R2_IntervalError.j1 k false x408000 x408001 x408002 x408003) else (if x408001 = true then (R2_IntervalError.j1 k false x408000 x408001 x408002 x408003) else (R2_IntervalError.j1 k (decide (x408002 > x408003)) x408000 x408001 x408002 x408003)))
def R2_IntervalError.j1 : Nat → Bool → Bool → Bool → Int → Int → Option (Int)
 | 0, _, _, _, _, _ => none
 | k + 1, x35, x408000, x408001, x408002, x408003 => if x35 = true then (some 3) else ((R2_Far.f x408002 1099511627776).bind fun t408 => ((R2_Far.f x408003 1099511627776).bind fun t409 => (if t408 = true then (some 2) else (if t409 = true then (some 2) else (some 0)))))
end
def R2_IntervalError.f (k : Nat) (a0_0 : Bool) (a0_1 : Bool) (a0_2 : Int) (a0_3 : Int) : Option (Int) := if a0_0 = true then (if a0_2 = 0 then (if a0_1 = true then (R2_IntervalError.j0 k (a0_3 != 0) a0_0 a0_1 a0_2 a0_3) else (R2_IntervalError.j0 k false a0_0 a0_1 a0_2 a0_3)) else (R2_IntervalError.j0 k true a0_0 a0_1 a0_2 a0_3)) else (if a0_1 = true then (R2_IntervalError.j0 k (a0_3 != 0) a0_0 a0_1 a0_2 a0_3) else (R2_IntervalError.j0 k false a0_0 a0_1 a0_2 a0_3))
theorem R2_IntervalError.mono_l : ∀ k, (∀ y0 y1 y2 y3 y4, LeO (R2_IntervalError.j0 k y0 y1 y2 y3 y4) (R2_IntervalError.j0 (k + 1) y0 y1 y2 y3 y4)) ∧ (∀ y0 y1 y2 y3 y4, LeO (R2_IntervalError.j1 k y0 y1 y2 y3 y4) (R2_IntervalError.j1 (k + 1) y0 y1 y2 y3 y4))
 | 0 => ⟨fun _ _ _ _ _ r h => by simp [R2_IntervalError.j0] at h, fun _ _ _ _ _ r h => by simp [R2_IntervalError.j1] at h⟩
 | k + 1 => by
  obtain ⟨ih0, ih1⟩ := R2_IntervalError.mono_l k
  refine ⟨?_, ?_⟩
  ·intro y0 y1 y2 y3 y4
   unfold R2_IntervalError.j0
   repeat' first
   | (with_reducible exact ih0 _ _ _ _ _)
   | (with_reducible exact ih1 _ _ _ _ _)
   | (with_reducible exact LeO.refl _)
   | (with_reducible exact LeO.none _)
   | (with_reducible refine LeO.ite ?_ ?_)
   | (with_reducible refine LeO.bind ?_ (fun _ => ?_))
   | exact ih0 _ _ _ _ _
   | exact ih1 _ _ _ _ _
   | exact LeO.none _
   | refine LeO.ite ?_ ?_
   | refine LeO.bind ?_ (fun _ => ?_)
  intro y0 y1 y2 y3 y4
  unfold R2_IntervalError.j1
  repeat' first
  | (with_reducible exact ih0 _ _ _ _ _)
  | (with_reducible exact ih1 _ _ _ _ _)
  | (with_reducible exact LeO.refl _)
  | (with_reducible exact LeO.none _)
  | (with_reducible refine LeO.ite ?_ ?_)
  | (with_reducible refine LeO.bind ?_ (fun _ => ?_))
  | exact ih0 _ _ _ _ _
  | exact ih1 _ _ _ _ _
  | exact LeO.none _
  | refine LeO.ite ?_ ?_
  | refine LeO.bind ?_ (fun _ => ?_)
theorem R2_IntervalError.mono : ∀ a0 a1 a2 a3 k, LeO (R2_IntervalError.f k a0 a1 a2 a3) (R2_IntervalError.f (k + 1) a0 a1 a2 a3) := by
 intro a0 a1 a2 a3 k
 obtain ⟨ih0, ih1⟩ := R2_IntervalError.mono_l k
 unfold R2_IntervalError.f
 repeat' first
   | (with_reducible exact ih0 _ _ _ _ _)
   | (with_reducible exact ih1 _ _ _ _ _)
   | (with_reducible exact LeO.refl _)
   | (with_reducible exact LeO.none _)
   | (with_reducible refine LeO.ite ?_ ?_)
   | (with_reducible refine LeO.bind ?_ (fun _ => ?_))
   | exact ih0 _ _ _ _ _
   | exact ih1 _ _ _ _ _
   | exact LeO.none _
   | refine LeO.ite ?_ ?_
   | refine LeO.bind ?_ (fun _ => ?_)
set_option maxHeartbeats 8000000 in
set_option maxRecDepth 100000 in
theorem R2_IntervalError.calls [EA] (k : Nat) (a0_0 : Bool) (a0_1 : Bool) (a0_2 : Int) (a0_3 : Int) (r : Int) (w : World) (h : R2_IntervalError.f k a0_0 a0_1 a0_2 a0_3 = some r) :
  Calls Tryd.prog 13 #[.agg #[.bool a0_0, .bool a0_1, .int .i64 a0_2, .int .i64 a0_3]] w fun e w' => e = .returned (.int .i64 r) ∧ Below w.heap.size w w' := by
 have hu23 := Tryd.underlying23
 have HB := am (Below.refl w.heap.size w)
 have H : (if a0_0 = true then (if a0_2 = 0 then (if a0_1 = true then (R2_IntervalError.j0 k (a0_3 != 0) a0_0 a0_1 a0_2 a0_3) else (R2_IntervalError.j0 k false a0_0 a0_1 a0_2 a0_3)) else (R2_IntervalError.j0 k true a0_0 a0_1 a0_2 a0_3)) else (if a0_1 = true then (R2_IntervalError.j0 k (a0_3 != 0) a0_0 a0_1 a0_2 a0_3) else (R2_IntervalError.j0 k false a0_0 a0_1 a0_2 a0_3))) = some r := h
 clear h
 have HC2 := am H
 clear H
 go_enter Tryd.func13, Tryd.ntmps13
 go_upto_region 1 with (first | ((with_reducible refine gate_dst (N := 1) rfl ?_); refine box_event ?hg (N := 1) ?hd (cs := #[.bool a0_0, .bool a0_1, .int .i64 a0_2, .int .i64 a0_3]) (t := 23) ?hr ?_; (case hd => rfl); (case hg => rfl); (case hr => first | (go_simp; done) | (go_simp; rfl)); intro gb407 hg w3 hbox hb; have n0_ := am (below_step pw hb); have n1_ := am (hbox); have n2_ := am ((by rw [hg]; exact (below_size pw) : w.heap.size ≤ gb407)); have n3_ := am ((by rw [hg]; exact (below_size pw) : w.heap.size ≤ gb407)); clear HB; have HB := n0_; have BK407 := n1_; have GW407 := n2_; have GE407 := n3_; clear n0_ n1_ n2_ n3_; clear hb hbox hg))
 (try simp only [Act.put, List.setIfInBounds_toArray, List.set_cons_zero, List.set_cons_succ])
 go_cut [20] (fun v20 wc => ∃ (kq : Nat) (x20_1 : Bool), v20 = .bool x20_1 ∧ Aside0 (R2_IntervalError.j0 kq x20_1 a0_0 a0_1 a0_2 a0_3 = some r) ∧ Aside0 (kq ≤ k) ∧ Aside0 (wc.heap[gb407]? = some (.cells #[.bool a0_0, .bool a0_1, .int .i64 a0_2, .int .i64 a0_3] 23 (0, 0))) ∧ Aside0 (Below w.heap.size w wc))
 case first =>
  have H := HC2.out
  clear HC2
  by_cases c4 : a0_0 = true
  ·subst c4
   have H1 : (if a0_2 = 0 then (if a0_1 = true then (R2_IntervalError.j0 k (a0_3 != 0) true a0_1 a0_2 a0_3) else (R2_IntervalError.j0 k false true a0_1 a0_2 a0_3)) else (R2_IntervalError.j0 k true true a0_1 a0_2 a0_3)) = some r := by rw [if_pos rfl] at H; exact H
   clear H
   have H := H1
   clear H1
   by_cases c5 : a0_2 = 0
   ·rw [if_pos c5] at H
    have c5b0 : (a0_2 == 0) = true := beq_iff_eq.mpr c5
    have c5b1 : (a0_2 != 0) = false := bne_eq_false_iff_eq.mpr c5
    clear c5
    (first | rw [c5b0] | (simp only [i64_w, i32_w]; rw [c5b0]) | skip)
    by_cases c6 : a0_1 = true
    ·subst c6
     have H1 : (R2_IntervalError.j0 k (a0_3 != 0) true true a0_2 a0_3) = some r := by rw [if_pos rfl] at H; exact H
     clear H
     have H := H1
     clear H1
     have H' := am H
     clear H
     have hcz7_0 : w3.cell? ⟨gb407, 0, none⟩ = some (.bool true) := bc BK407 0
     have hcz7_1 : w3.cell? ⟨gb407, 1, none⟩ = some (.bool true) := bc BK407 1
     have hcz7_2 : w3.cell? ⟨gb407, 2, none⟩ = some (.int .i64 a0_2) := bc BK407 2
     have hcz7_3 : w3.cell? ⟨gb407, 3, none⟩ = some (.int .i64 a0_3) := bc BK407 3
     have hfz7_0 := blk_frozen BK407.out 0
     have hfz7_1 := blk_frozen BK407.out 1
     have hfz7_2 := blk_frozen BK407.out 2
     have hfz7_3 := blk_frozen BK407.out 3
     go_wp2
     go_meet
     case rel => exact ⟨_, ((a0_3 != 0)), pr, H', ⟨by first | omega | exact Nat.le_refl _⟩, ⟨by (with_reducible repeat (first | refine blk_drewN ?_ _ | refine blk_drew ?_ | refine blk_alloc ?_ _)); exact BK407.out⟩, ⟨pw⟩⟩
    replace c6 := Bool.eq_false_iff.mpr c6
    subst c6
    have H1 : (R2_IntervalError.j0 k false true false a0_2 a0_3) = some r := by rw [if_neg (show ¬ (false = true) by decide)] at H; exact H
    clear H
    have H := H1
    clear H1
    have H' := am H
    clear H
    have hcz8_0 : w3.cell? ⟨gb407, 0, none⟩ = some (.bool true) := bc BK407 0
    have hcz8_1 : w3.cell? ⟨gb407, 1, none⟩ = some (.bool false) := bc BK407 1
    have hcz8_2 : w3.cell? ⟨gb407, 2, none⟩ = some (.int .i64 a0_2) := bc BK407 2
    have hcz8_3 : w3.cell? ⟨gb407, 3, none⟩ = some (.int .i64 a0_3) := bc BK407 3
    have hfz8_0 := blk_frozen BK407.out 0
    have hfz8_1 := blk_frozen BK407.out 1
    have hfz8_2 := blk_frozen BK407.out 2
    have hfz8_3 := blk_frozen BK407.out 3
    go_wp2
    go_meet
    case rel => exact ⟨_, (false), pr, H', ⟨by first | omega | exact Nat.le_refl _⟩, ⟨by (with_reducible repeat (first | refine blk_drewN ?_ _ | refine blk_drew ?_ | refine blk_alloc ?_ _)); exact BK407.out⟩, ⟨pw⟩⟩
   rw [if_neg c5] at H
   have c5b0 : (a0_2 == 0) = false := beq_eq_false_iff_ne.mpr c5
   have c5b1 : (a0_2 != 0) = true := bne_iff_ne.mpr c5
   (first | rw [c5b0] | (simp only [i64_w, i32_w]; rw [c5b0]) | skip)
   have H' := am H
   clear H
   have hcz9_0 : w3.cell? ⟨gb407, 0, none⟩ = some (.bool true) := bc BK407 0
   have hcz9_1 : w3.cell? ⟨gb407, 1, none⟩ = some (.bool a0_1) := bc BK407 1
   have hcz9_2 : w3.cell? ⟨gb407, 2, none⟩ = some (.int .i64 a0_2) := bc BK407 2
   have hcz9_3 : w3.cell? ⟨gb407, 3, none⟩ = some (.int .i64 a0_3) := bc BK407 3
   have hfz9_0 := blk_frozen BK407.out 0
   have hfz9_1 := blk_frozen BK407.out 1
   have hfz9_2 := blk_frozen BK407.out 2
   have hfz9_3 := blk_frozen BK407.out 3
   go_wp2
   go_meet
   case rel => exact ⟨_, (true), pr, H', ⟨by first | omega | exact Nat.le_refl _⟩, ⟨by (with_reducible repeat (first | refine blk_drewN ?_ _ | refine blk_drew ?_ | refine blk_alloc ?_ _)); exact BK407.out⟩, ⟨pw⟩⟩
  replace c4 := Bool.eq_false_iff.mpr c4
  subst c4
  have H1 : (if a0_1 = true then (R2_IntervalError.j0 k (a0_3 != 0) false a0_1 a0_2 a0_3) else (R2_IntervalError.j0 k false false a0_1 a0_2 a0_3)) = some r := by rw [if_neg (show ¬ (false = true) by decide)] at H; exact H
  clear H
  have H := H1
  clear H1
  by_cases c10 : a0_1 = true
  ·subst c10
   have H1 : (R2_IntervalError.j0 k (a0_3 != 0) false true a0_2 a0_3) = some r := by rw [if_pos rfl] at H; exact H
   clear H
   have H := H1
   clear H1
   have H' := am H
   clear H
   have hcz11_0 : w3.cell? ⟨gb407, 0, none⟩ = some (.bool false) := bc BK407 0
   have hcz11_1 : w3.cell? ⟨gb407, 1, none⟩ = some (.bool true) := bc BK407 1
   have hcz11_2 : w3.cell? ⟨gb407, 2, none⟩ = some (.int .i64 a0_2) := bc BK407 2
   have hcz11_3 : w3.cell? ⟨gb407, 3, none⟩ = some (.int .i64 a0_3) := bc BK407 3
   have hfz11_0 := blk_frozen BK407.out 0
   have hfz11_1 := blk_frozen BK407.out 1
   have hfz11_2 := blk_frozen BK407.out 2
   have hfz11_3 := blk_frozen BK407.out 3
   go_wp2
   go_meet
   case rel => exact ⟨_, ((a0_3 != 0)), pr, H', ⟨by first | omega | exact Nat.le_refl _⟩, ⟨by (with_reducible repeat (first | refine blk_drewN ?_ _ | refine blk_drew ?_ | refine blk_alloc ?_ _)); exact BK407.out⟩, ⟨pw⟩⟩
  replace c10 := Bool.eq_false_iff.mpr c10
  subst c10
  have H1 : (R2_IntervalError.j0 k false false false a0_2 a0_3) = some r := by rw [if_neg (show ¬ (false = true) by decide)] at H; exact H
  clear H
  have H := H1
  clear H1
  have H' := am H
  clear H
  have hcz12_0 : w3.cell? ⟨gb407, 0, none⟩ = some (.bool false) := bc BK407 0
  have hcz12_1 : w3.cell? ⟨gb407, 1, none⟩ = some (.bool false) := bc BK407 1
  have hcz12_2 : w3.cell? ⟨gb407, 2, none⟩ = some (.int .i64 a0_2) := bc BK407 2
  have hcz12_3 : w3.cell? ⟨gb407, 3, none⟩ = some (.int .i64 a0_3) := bc BK407 3
  have hfz12_0 := blk_frozen BK407.out 0
  have hfz12_1 := blk_frozen BK407.out 1
  have hfz12_2 := blk_frozen BK407.out 2
  have hfz12_3 := blk_frozen BK407.out 3
  go_wp2
  go_meet
  case rel => exact ⟨_, (false), pr, H', ⟨by first | omega | exact Nat.le_refl _⟩, ⟨by (with_reducible repeat (first | refine blk_drewN ?_ _ | refine blk_drew ?_ | refine blk_alloc ?_ _)); exact BK407.out⟩, ⟨pw⟩⟩
 clear HC2
 try clear c1
 try clear p2
 try clear c4
 try clear c5
 try clear c5b0
 try clear c5b1
 try clear c6
 try clear c10
 try clear hcz11_0
 try clear hcz11_1
 try clear hcz11_2
 try clear hcz11_3
 try clear hcz12_0
 try clear hcz12_1
 try clear hcz12_2
 try clear hcz12_3
 try clear hcz7_0
 try clear hcz7_1
 try clear hcz7_2
 try clear hcz7_3
 try clear hcz8_0
 try clear hcz8_1
 try clear hcz8_2
 try clear hcz8_3
 try clear hcz9_0
 try clear hcz9_1
 try clear hcz9_2
 try clear hcz9_3
 try clear hfz11_0
 try clear hfz11_1
 try clear hfz11_2
 try clear hfz11_3
 try clear hfz12_0
 try clear hfz12_1
 try clear hfz12_2
 try clear hfz12_3
 try clear hfz7_0
 try clear hfz7_1
 try clear hfz7_2
 try clear hfz7_3
 try clear hfz8_0
 try clear hfz8_1
 try clear hfz8_2
 try clear hfz8_3
 try clear hfz9_0
 try clear hfz9_1
 try clear hfz9_2
 try clear hfz9_3
 obtain ⟨kq, x20_1, rfl, HA, HJ1, BK407, HB⟩ := hcut
 cases kq with
 | zero => exact absurd HA.out (by simp [R2_IntervalError.j0])
 | succ kj1 =>
  have H := HA.out
  clear HA
  simp only [R2_IntervalError.j0] at H
  by_cases c13 : x20_1 = true
  ·subst c13
   have H1 : (some 3) = some r := by rw [if_pos rfl] at H; exact H
   clear H
   have H := H1
   clear H1
   obtain rfl := Option.some.inj H
   go_wp2
   go_ret
   exact ⟨pe, pw⟩
  replace c13 := Bool.eq_false_iff.mpr c13
  subst c13
  have H1 : (if a0_0 = true then (R2_IntervalError.j1 kj1 false a0_0 a0_1 a0_2 a0_3) else (if a0_1 = true then (R2_IntervalError.j1 kj1 false a0_0 a0_1 a0_2 a0_3) else (R2_IntervalError.j1 kj1 (decide (a0_2 > a0_3)) a0_0 a0_1 a0_2 a0_3))) = some r := by rw [if_neg (show ¬ (false = true) by decide)] at H; exact H
  clear H
  have H := H1
  clear H1
  have HC14 := am H
  clear H
  go_upto_region 3 with (fail)
  go_cut [35] (fun v35 wc => ∃ (kq : Nat) (x35_13 : Bool), v35 = .bool x35_13 ∧ Aside0 (R2_IntervalError.j1 kq x35_13 a0_0 a0_1 a0_2 a0_3 = some r) ∧ Aside0 (kq ≤ kj1) ∧ Aside0 (wc.heap[gb407]? = some (.cells #[.bool a0_0, .bool a0_1, .int .i64 a0_2, .int .i64 a0_3] 23 (0, 0))) ∧ Aside0 (Below w.heap.size w wc))
  case first =>
   have H := HC14.out
   clear HC14
   by_cases c15 : a0_0 = true
   ·subst c15
    have H1 : (R2_IntervalError.j1 kj1 false true a0_1 a0_2 a0_3) = some r := by rw [if_pos rfl] at H; exact H
    clear H
    have H := H1
    clear H1
    have H' := am H
    clear H
    have hcz16_0 : wc.cell? ⟨gb407, 0, none⟩ = some (.bool true) := bc BK407 0
    have hcz16_1 : wc.cell? ⟨gb407, 1, none⟩ = some (.bool a0_1) := bc BK407 1
    have hcz16_2 : wc.cell? ⟨gb407, 2, none⟩ = some (.int .i64 a0_2) := bc BK407 2
    have hcz16_3 : wc.cell? ⟨gb407, 3, none⟩ = some (.int .i64 a0_3) := bc BK407 3
    have hfz16_0 := blk_frozen BK407.out 0
    have hfz16_1 := blk_frozen BK407.out 1
    have hfz16_2 := blk_frozen BK407.out 2
    have hfz16_3 := blk_frozen BK407.out 3
    go_wp2
    go_meet
    case rel => exact ⟨_, (false), pr, H', ⟨by have := HJ1.out; first | omega | exact Nat.le_refl _⟩, ⟨by (with_reducible repeat (first | refine blk_drewN ?_ _ | refine blk_drew ?_ | refine blk_alloc ?_ _)); exact BK407.out⟩, ⟨pw⟩⟩
   replace c15 := Bool.eq_false_iff.mpr c15
   subst c15
   have H1 : (if a0_1 = true then (R2_IntervalError.j1 kj1 false false a0_1 a0_2 a0_3) else (R2_IntervalError.j1 kj1 (decide (a0_2 > a0_3)) false a0_1 a0_2 a0_3)) = some r := by rw [if_neg (show ¬ (false = true) by decide)] at H; exact H
   clear H
   have H := H1
   clear H1
   by_cases c17 : a0_1 = true
   ·subst c17
    have H1 : (R2_IntervalError.j1 kj1 false false true a0_2 a0_3) = some r := by rw [if_pos rfl] at H; exact H
    clear H
    have H := H1
    clear H1
    have H' := am H
    clear H
    have hcz18_0 : wc.cell? ⟨gb407, 0, none⟩ = some (.bool false) := bc BK407 0
    have hcz18_1 : wc.cell? ⟨gb407, 1, none⟩ = some (.bool true) := bc BK407 1
    have hcz18_2 : wc.cell? ⟨gb407, 2, none⟩ = some (.int .i64 a0_2) := bc BK407 2
    have hcz18_3 : wc.cell? ⟨gb407, 3, none⟩ = some (.int .i64 a0_3) := bc BK407 3
    have hfz18_0 := blk_frozen BK407.out 0
    have hfz18_1 := blk_frozen BK407.out 1
    have hfz18_2 := blk_frozen BK407.out 2
    have hfz18_3 := blk_frozen BK407.out 3
    go_wp2
    go_meet
    case rel => exact ⟨_, (false), pr, H', ⟨by have := HJ1.out; first | omega | exact Nat.le_refl _⟩, ⟨by (with_reducible repeat (first | refine blk_drewN ?_ _ | refine blk_drew ?_ | refine blk_alloc ?_ _)); exact BK407.out⟩, ⟨pw⟩⟩
   replace c17 := Bool.eq_false_iff.mpr c17
   subst c17
   have H1 : (R2_IntervalError.j1 kj1 (decide (a0_2 > a0_3)) false false a0_2 a0_3) = some r := by rw [if_neg (show ¬ (false = true) by decide)] at H; exact H
   clear H
   have H := H1
   clear H1
   have H' := am H
   clear H
   have hcz19_0 : wc.cell? ⟨gb407, 0, none⟩ = some (.bool false) := bc BK407 0
   have hcz19_1 : wc.cell? ⟨gb407, 1, none⟩ = some (.bool false) := bc BK407 1
   have hcz19_2 : wc.cell? ⟨gb407, 2, none⟩ = some (.int .i64 a0_2) := bc BK407 2
   have hcz19_3 : wc.cell? ⟨gb407, 3, none⟩ = some (.int .i64 a0_3) := bc BK407 3
   have hfz19_0 := blk_frozen BK407.out 0
   have hfz19_1 := blk_frozen BK407.out 1
   have hfz19_2 := blk_frozen BK407.out 2
   have hfz19_3 := blk_frozen BK407.out 3
   go_wp2
   go_meet
   case rel => exact ⟨_, (decide (a0_2 > a0_3)), pr, H', ⟨by have := HJ1.out; first | omega | exact Nat.le_refl _⟩, ⟨by (with_reducible repeat (first | refine blk_drewN ?_ _ | refine blk_drew ?_ | refine blk_alloc ?_ _)); exact BK407.out⟩, ⟨pw⟩⟩
  clear HC14
  try clear c1
  try clear p2
  try clear c4
  try clear c5
  try clear c5b0
  try clear c5b1
  try clear c6
  try clear c10
  try clear c13
  try clear c15
  try clear c17
  try clear hcz11_0
  try clear hcz11_1
  try clear hcz11_2
  try clear hcz11_3
  try clear hcz12_0
  try clear hcz12_1
  try clear hcz12_2
  try clear hcz12_3
  try clear hcz16_0
  try clear hcz16_1
  try clear hcz16_2
  try clear hcz16_3
  try clear hcz18_0
  try clear hcz18_1
  try clear hcz18_2
  try clear hcz18_3
  try clear hcz19_0
  try clear hcz19_1
  try clear hcz19_2
  try clear hcz19_3
  try clear hcz7_0
  try clear hcz7_1
  try clear hcz7_2
  try clear hcz7_3
  try clear hcz8_0
  try clear hcz8_1
  try clear hcz8_2
  try clear hcz8_3
  try clear hcz9_0
  try clear hcz9_1
  try clear hcz9_2
  try clear hcz9_3
  try clear hfz11_0
  try clear hfz11_1
  try clear hfz11_2
  try clear hfz11_3
  try clear hfz12_0
  try clear hfz12_1
  try clear hfz12_2
  try clear hfz12_3
  try clear hfz16_0
  try clear hfz16_1
  try clear hfz16_2
  try clear hfz16_3
  try clear hfz18_0
  try clear hfz18_1
  try clear hfz18_2
  try clear hfz18_3
  try clear hfz19_0
  try clear hfz19_1
  try clear hfz19_2
  try clear hfz19_3
  try clear hfz7_0
  try clear hfz7_1
  try clear hfz7_2
  try clear hfz7_3
  try clear hfz8_0
  try clear hfz8_1
  try clear hfz8_2
  try clear hfz8_3
  try clear hfz9_0
  try clear hfz9_1
  try clear hfz9_2
  try clear hfz9_3
  try clear p2
  obtain ⟨kq, x35_13, rfl, HA, HJ13, BK407, HB⟩ := hcut
  cases kq with
  | zero => exact absurd HA.out (by simp [R2_IntervalError.j1])
  | succ kj13 =>
   have H := HA.out
   clear HA
   simp only [R2_IntervalError.j1] at H
   by_cases c20 : x35_13 = true
   ·subst c20
    have H1 : (some 3) = some r := by rw [if_pos rfl] at H; exact H
    clear H
    have H := H1
    clear H1
    obtain rfl := Option.some.inj H
    go_wp2
    go_ret
    exact ⟨pe, pw⟩
   replace c20 := Bool.eq_false_iff.mpr c20
   subst c20
   have H1 : ((R2_Far.f a0_2 1099511627776).bind fun t408 => ((R2_Far.f a0_3 1099511627776).bind fun t409 => (if t408 = true then (some 2) else (if t409 = true then (some 2) else (some 0))))) = some r := by rw [if_neg (show ¬ (false = true) by decide)] at H; exact H
   clear H
   have H := H1
   clear H1
   replace H := Option.bind_eq_some_iff.mp H
   obtain ⟨t408, A210, H⟩ := H
   replace H : ((R2_Far.f a0_3 1099511627776).bind fun t409 => (if t408 = true then (some 2) else (if t409 = true then (some 2) else (some 0)))) = some r := H
   have A21 := am A210
   clear A210
   replace H := Option.bind_eq_some_iff.mp H
   obtain ⟨t409, A220, H⟩ := H
   replace H : (if t408 = true then (some 2) else (if t409 = true then (some 2) else (some 0))) = some r := H
   have A22 := am A220
   clear A220
   by_cases c23 : t408 = true
   ·subst c23
    have H1 : (some 2) = some r := by rw [if_pos rfl] at H; exact H
    clear H
    have H := H1
    clear H1
    obtain rfl := Option.some.inj H
    have hcz24_0 : wc.cell? ⟨gb407, 0, none⟩ = some (.bool a0_0) := bc BK407 0
    have hcz24_1 : wc.cell? ⟨gb407, 1, none⟩ = some (.bool a0_1) := bc BK407 1
    have hcz24_2 : wc.cell? ⟨gb407, 2, none⟩ = some (.int .i64 a0_2) := bc BK407 2
    have hcz24_3 : wc.cell? ⟨gb407, 3, none⟩ = some (.int .i64 a0_3) := bc BK407 3
    have hfz24_0 := blk_frozen BK407.out 0
    have hfz24_1 := blk_frozen BK407.out 1
    have hfz24_2 := blk_frozen BK407.out 2
    have hfz24_3 := blk_frozen BK407.out 3
    go_wp2_with (first | ((with_reducible refine gate_callee (f := 27) rfl ?_); refine goesL_ (some 38) rfl rfl Tryd.func27 kk rfl #[.int .i64 a0_2, .int .i64 1099511627776] rfl (by (try simp only [List.map_toArray, List.map_cons, List.map_nil]); first | done | rfl | (simp only [List.length_drop, List.length_take]; rfl)) ?_; (with_reducible refine (R2_Far.calls a0_2 1099511627776 true _ A21.out).mono ?_); rintro e w' ⟨rfl, ⟨nd, rfl⟩⟩; refine ⟨_, rfl, ?_⟩) | ((with_reducible refine gate_callee (f := 27) rfl ?_); refine goesL_ (some 41) rfl rfl Tryd.func27 kk rfl #[.int .i64 a0_3, .int .i64 1099511627776] rfl (by (try simp only [List.map_toArray, List.map_cons, List.map_nil]); first | done | rfl | (simp only [List.length_drop, List.length_take]; rfl)) ?_; (with_reducible refine (R2_Far.calls a0_3 1099511627776 t409 _ A22.out).mono ?_); rintro e w' ⟨rfl, ⟨nd, rfl⟩⟩; refine ⟨_, rfl, ?_⟩))
    go_ret
    exact ⟨pe, pw⟩
   replace c23 := Bool.eq_false_iff.mpr c23
   subst c23
   have H1 : (if t409 = true then (some 2) else (some 0)) = some r := by rw [if_neg (show ¬ (false = true) by decide)] at H; exact H
   clear H
   have H := H1
   clear H1
   by_cases c25 : t409 = true
   ·subst c25
    have H1 : (some 2) = some r := by rw [if_pos rfl] at H; exact H
    clear H
    have H := H1
    clear H1
    obtain rfl := Option.some.inj H
    have hcz26_0 : wc.cell? ⟨gb407, 0, none⟩ = some (.bool a0_0) := bc BK407 0
    have hcz26_1 : wc.cell? ⟨gb407, 1, none⟩ = some (.bool a0_1) := bc BK407 1
    have hcz26_2 : wc.cell? ⟨gb407, 2, none⟩ = some (.int .i64 a0_2) := bc BK407 2
    have hcz26_3 : wc.cell? ⟨gb407, 3, none⟩ = some (.int .i64 a0_3) := bc BK407 3
    have hfz26_0 := blk_frozen BK407.out 0
    have hfz26_1 := blk_frozen BK407.out 1
    have hfz26_2 := blk_frozen BK407.out 2
    have hfz26_3 := blk_frozen BK407.out 3
    go_wp2_with (first | ((with_reducible refine gate_callee (f := 27) rfl ?_); refine goesL_ (some 38) rfl rfl Tryd.func27 kk rfl #[.int .i64 a0_2, .int .i64 1099511627776] rfl (by (try simp only [List.map_toArray, List.map_cons, List.map_nil]); first | done | rfl | (simp only [List.length_drop, List.length_take]; rfl)) ?_; (with_reducible refine (R2_Far.calls a0_2 1099511627776 false _ A21.out).mono ?_); rintro e w' ⟨rfl, ⟨nd, rfl⟩⟩; refine ⟨_, rfl, ?_⟩) | ((with_reducible refine gate_callee (f := 27) rfl ?_); refine goesL_ (some 41) rfl rfl Tryd.func27 kk rfl #[.int .i64 a0_3, .int .i64 1099511627776] rfl (by (try simp only [List.map_toArray, List.map_cons, List.map_nil]); first | done | rfl | (simp only [List.length_drop, List.length_take]; rfl)) ?_; (with_reducible refine (R2_Far.calls a0_3 1099511627776 true _ A22.out).mono ?_); rintro e w' ⟨rfl, ⟨nd, rfl⟩⟩; refine ⟨_, rfl, ?_⟩))
    go_ret
    exact ⟨pe, pw⟩
   replace c25 := Bool.eq_false_iff.mpr c25
   subst c25
   have H1 : (some 0) = some r := by rw [if_neg (show ¬ (false = true) by decide)] at H; exact H
   clear H
   have H := H1
   clear H1
   obtain rfl := Option.some.inj H
   have hcz27_0 : wc.cell? ⟨gb407, 0, none⟩ = some (.bool a0_0) := bc BK407 0
   have hcz27_1 : wc.cell? ⟨gb407, 1, none⟩ = some (.bool a0_1) := bc BK407 1
   have hcz27_2 : wc.cell? ⟨gb407, 2, none⟩ = some (.int .i64 a0_2) := bc BK407 2
   have hcz27_3 : wc.cell? ⟨gb407, 3, none⟩ = some (.int .i64 a0_3) := bc BK407 3
   have hfz27_0 := blk_frozen BK407.out 0
   have hfz27_1 := blk_frozen BK407.out 1
   have hfz27_2 := blk_frozen BK407.out 2
   have hfz27_3 := blk_frozen BK407.out 3
   go_wp2_with (first | ((with_reducible refine gate_callee (f := 27) rfl ?_); refine goesL_ (some 38) rfl rfl Tryd.func27 kk rfl #[.int .i64 a0_2, .int .i64 1099511627776] rfl (by (try simp only [List.map_toArray, List.map_cons, List.map_nil]); first | done | rfl | (simp only [List.length_drop, List.length_take]; rfl)) ?_; (with_reducible refine (R2_Far.calls a0_2 1099511627776 false _ A21.out).mono ?_); rintro e w' ⟨rfl, ⟨nd, rfl⟩⟩; refine ⟨_, rfl, ?_⟩) | ((with_reducible refine gate_callee (f := 27) rfl ?_); refine goesL_ (some 41) rfl rfl Tryd.func27 kk rfl #[.int .i64 a0_3, .int .i64 1099511627776] rfl (by (try simp only [List.map_toArray, List.map_cons, List.map_nil]); first | done | rfl | (simp only [List.length_drop, List.length_take]; rfl)) ?_; (with_reducible refine (R2_Far.calls a0_3 1099511627776 false _ A22.out).mono ?_); rintro e w' ⟨rfl, ⟨nd, rfl⟩⟩; refine ⟨_, rfl, ?_⟩))
   go_ret
   exact ⟨pe, pw⟩

/-! ### R2_InOf: function 17 -/
def R2_InOf.f (a0_0 : Bool) (a0_1 : Bool) (a0_2 : Int) (a0_3 : Int) (a1 : Int) : Option (Bool) := if a0_0 = true then (if a0_1 = true then (some true) else (some (decide (a1 ≤ a0_3)))) else (if a1 ≥ a0_2 then (if a0_1 = true then (some true) else (some (decide (a1 ≤ a0_3)))) else (some false))
set_option maxHeartbeats 8000000 in
set_option maxRecDepth 100000 in
theorem R2_InOf.calls [EA] (a0_0 : Bool) (a0_1 : Bool) (a0_2 : Int) (a0_3 : Int) (a1 : Int) (r : Bool) (w : World) (h : R2_InOf.f a0_0 a0_1 a0_2 a0_3 a1 = some r) :
  Calls Tryd.prog 17 #[.agg #[.bool a0_0, .bool a0_1, .int .i64 a0_2, .int .i64 a0_3], .int .i64 a1] w fun e w' => e = .returned (.bool r) ∧ Below w.heap.size w w' := by
 have hu23 := Tryd.underlying23
 have HB := am (Below.refl w.heap.size w)
 have H : (if a0_0 = true then (if a0_1 = true then (some true) else (some (decide (a1 ≤ a0_3)))) else (if a1 ≥ a0_2 then (if a0_1 = true then (some true) else (some (decide (a1 ≤ a0_3)))) else (some false))) = some r := h
 clear h
 by_cases c3 : a0_0 = true
 ·subst c3
  have H1 : (if a0_1 = true then (some true) else (some (decide (a1 ≤ a0_3)))) = some r := by rw [if_pos rfl] at H; exact H
  clear H
  have H := H1
  clear H1
  by_cases c4 : a0_1 = true
  ·subst c4
   have H1 : (some true) = some r := by rw [if_pos rfl] at H; exact H
   clear H
   have H := H1
   clear H1
   obtain rfl := Option.some.inj H
   go_enter Tryd.func17, Tryd.ntmps17
   go_wp2_with (first | ((with_reducible refine gate_dst (N := 2) rfl ?_); refine box_event ?hg (N := 2) ?hd (cs := #[.bool true, .bool true, .int .i64 a0_2, .int .i64 a0_3]) (t := 23) ?hr ?_; (case hd => rfl); (case hg => rfl); (case hr => first | (go_simp; done) | (go_simp; rfl)); intro gb410 hg w5 hbox hb; have n0_ := am (below_step pw hb); have n1_ := am (hbox); have n2_ := am ((by rw [hg]; exact (below_size pw) : w.heap.size ≤ gb410)); have n3_ := am ((by rw [hg]; exact (below_size pw) : w.heap.size ≤ gb410)); clear HB; have HB := n0_; have BK410 := n1_; have GW410 := n2_; have GE410 := n3_; clear n0_ n1_ n2_ n3_; clear hb hbox hg; have hcz6_0 : w5.cell? ⟨gb410, 0, none⟩ = some (.bool true) := bc BK410 0; have hcz6_1 : w5.cell? ⟨gb410, 1, none⟩ = some (.bool true) := bc BK410 1; have hcz6_2 : w5.cell? ⟨gb410, 2, none⟩ = some (.int .i64 a0_2) := bc BK410 2; have hcz6_3 : w5.cell? ⟨gb410, 3, none⟩ = some (.int .i64 a0_3) := bc BK410 3; have hfz6_0 := blk_frozen BK410.out 0; have hfz6_1 := blk_frozen BK410.out 1; have hfz6_2 := blk_frozen BK410.out 2; have hfz6_3 := blk_frozen BK410.out 3))
   go_ret
   exact ⟨pe, pw⟩
  replace c4 := Bool.eq_false_iff.mpr c4
  subst c4
  have H1 : (some (decide (a1 ≤ a0_3))) = some r := by rw [if_neg (show ¬ (false = true) by decide)] at H; exact H
  clear H
  have H := H1
  clear H1
  obtain rfl := Option.some.inj H
  go_enter Tryd.func17, Tryd.ntmps17
  go_wp2_with (first | ((with_reducible refine gate_dst (N := 2) rfl ?_); refine box_event ?hg (N := 2) ?hd (cs := #[.bool true, .bool false, .int .i64 a0_2, .int .i64 a0_3]) (t := 23) ?hr ?_; (case hd => rfl); (case hg => rfl); (case hr => first | (go_simp; done) | (go_simp; rfl)); intro gb410 hg w7 hbox hb; have n0_ := am (below_step pw hb); have n1_ := am (hbox); have n2_ := am ((by rw [hg]; exact (below_size pw) : w.heap.size ≤ gb410)); have n3_ := am ((by rw [hg]; exact (below_size pw) : w.heap.size ≤ gb410)); clear HB; have HB := n0_; have BK410 := n1_; have GW410 := n2_; have GE410 := n3_; clear n0_ n1_ n2_ n3_; clear hb hbox hg; have hcz8_0 : w7.cell? ⟨gb410, 0, none⟩ = some (.bool true) := bc BK410 0; have hcz8_1 : w7.cell? ⟨gb410, 1, none⟩ = some (.bool false) := bc BK410 1; have hcz8_2 : w7.cell? ⟨gb410, 2, none⟩ = some (.int .i64 a0_2) := bc BK410 2; have hcz8_3 : w7.cell? ⟨gb410, 3, none⟩ = some (.int .i64 a0_3) := bc BK410 3; have hfz8_0 := blk_frozen BK410.out 0; have hfz8_1 := blk_frozen BK410.out 1; have hfz8_2 := blk_frozen BK410.out 2; have hfz8_3 := blk_frozen BK410.out 3))
  go_ret
  exact ⟨pe, pw⟩
 replace c3 := Bool.eq_false_iff.mpr c3
 subst c3
 have H1 : (if a1 ≥ a0_2 then (if a0_1 = true then (some true) else (some (decide (a1 ≤ a0_3)))) else (some false)) = some r := by rw [if_neg (show ¬ (false = true) by decide)] at H; exact H
 clear H
 have H := H1
 clear H1
 by_cases c9 : a1 ≥ a0_2
 ·rw [if_pos c9] at H
  have c9b0 : decide (a0_2 ≤ a1) = true := decide_eq_true c9
  clear c9
  by_cases c10 : a0_1 = true
  ·subst c10
   have H1 : (some true) = some r := by rw [if_pos rfl] at H; exact H
   clear H
   have H := H1
   clear H1
   obtain rfl := Option.some.inj H
   go_enter Tryd.func17, Tryd.ntmps17
   go_wp2_with (first | ((with_reducible refine gate_dst (N := 2) rfl ?_); refine box_event ?hg (N := 2) ?hd (cs := #[.bool false, .bool true, .int .i64 a0_2, .int .i64 a0_3]) (t := 23) ?hr ?_; (case hd => rfl); (case hg => rfl); (case hr => first | (go_simp; done) | (go_simp; rfl)); intro gb410 hg w11 hbox hb; have n0_ := am (below_step pw hb); have n1_ := am (hbox); have n2_ := am ((by rw [hg]; exact (below_size pw) : w.heap.size ≤ gb410)); have n3_ := am ((by rw [hg]; exact (below_size pw) : w.heap.size ≤ gb410)); clear HB; have HB := n0_; have BK410 := n1_; have GW410 := n2_; have GE410 := n3_; clear n0_ n1_ n2_ n3_; clear hb hbox hg; have hcz12_0 : w11.cell? ⟨gb410, 0, none⟩ = some (.bool false) := bc BK410 0; have hcz12_1 : w11.cell? ⟨gb410, 1, none⟩ = some (.bool true) := bc BK410 1; have hcz12_2 : w11.cell? ⟨gb410, 2, none⟩ = some (.int .i64 a0_2) := bc BK410 2; have hcz12_3 : w11.cell? ⟨gb410, 3, none⟩ = some (.int .i64 a0_3) := bc BK410 3; have hfz12_0 := blk_frozen BK410.out 0; have hfz12_1 := blk_frozen BK410.out 1; have hfz12_2 := blk_frozen BK410.out 2; have hfz12_3 := blk_frozen BK410.out 3))
   go_ret
   exact ⟨pe, pw⟩
  replace c10 := Bool.eq_false_iff.mpr c10
  subst c10
  have H1 : (some (decide (a1 ≤ a0_3))) = some r := by rw [if_neg (show ¬ (false = true) by decide)] at H; exact H
  clear H
  have H := H1
  clear H1
  obtain rfl := Option.some.inj H
  go_enter Tryd.func17, Tryd.ntmps17
  go_wp2_with (first | ((with_reducible refine gate_dst (N := 2) rfl ?_); refine box_event ?hg (N := 2) ?hd (cs := #[.bool false, .bool false, .int .i64 a0_2, .int .i64 a0_3]) (t := 23) ?hr ?_; (case hd => rfl); (case hg => rfl); (case hr => first | (go_simp; done) | (go_simp; rfl)); intro gb410 hg w13 hbox hb; have n0_ := am (below_step pw hb); have n1_ := am (hbox); have n2_ := am ((by rw [hg]; exact (below_size pw) : w.heap.size ≤ gb410)); have n3_ := am ((by rw [hg]; exact (below_size pw) : w.heap.size ≤ gb410)); clear HB; have HB := n0_; have BK410 := n1_; have GW410 := n2_; have GE410 := n3_; clear n0_ n1_ n2_ n3_; clear hb hbox hg; have hcz14_0 : w13.cell? ⟨gb410, 0, none⟩ = some (.bool false) := bc BK410 0; have hcz14_1 : w13.cell? ⟨gb410, 1, none⟩ = some (.bool false) := bc BK410 1; have hcz14_2 : w13.cell? ⟨gb410, 2, none⟩ = some (.int .i64 a0_2) := bc BK410 2; have hcz14_3 : w13.cell? ⟨gb410, 3, none⟩ = some (.int .i64 a0_3) := bc BK410 3; have hfz14_0 := blk_frozen BK410.out 0; have hfz14_1 := blk_frozen BK410.out 1; have hfz14_2 := blk_frozen BK410.out 2; have hfz14_3 := blk_frozen BK410.out 3))
  go_ret
  exact ⟨pe, pw⟩
 rw [if_neg c9] at H
 have c9b0 : decide (a0_2 ≤ a1) = false := decide_eq_false c9
 clear c9
 obtain rfl := Option.some.inj H
 go_enter Tryd.func17, Tryd.ntmps17
 go_wp2_with (first | ((with_reducible refine gate_dst (N := 2) rfl ?_); refine box_event ?hg (N := 2) ?hd (cs := #[.bool false, .bool a0_1, .int .i64 a0_2, .int .i64 a0_3]) (t := 23) ?hr ?_; (case hd => rfl); (case hg => rfl); (case hr => first | (go_simp; done) | (go_simp; rfl)); intro gb410 hg w15 hbox hb; have n0_ := am (below_step pw hb); have n1_ := am (hbox); have n2_ := am ((by rw [hg]; exact (below_size pw) : w.heap.size ≤ gb410)); have n3_ := am ((by rw [hg]; exact (below_size pw) : w.heap.size ≤ gb410)); clear HB; have HB := n0_; have BK410 := n1_; have GW410 := n2_; have GE410 := n3_; clear n0_ n1_ n2_ n3_; clear hb hbox hg; have hcz16_0 : w15.cell? ⟨gb410, 0, none⟩ = some (.bool false) := bc BK410 0; have hcz16_1 : w15.cell? ⟨gb410, 1, none⟩ = some (.bool a0_1) := bc BK410 1; have hcz16_2 : w15.cell? ⟨gb410, 2, none⟩ = some (.int .i64 a0_2) := bc BK410 2; have hcz16_3 : w15.cell? ⟨gb410, 3, none⟩ = some (.int .i64 a0_3) := bc BK410 3; have hfz16_0 := blk_frozen BK410.out 0; have hfz16_1 := blk_frozen BK410.out 1; have hfz16_2 := blk_frozen BK410.out 2; have hfz16_3 := blk_frozen BK410.out 3))
 go_ret
 exact ⟨pe, pw⟩

/-! ### L2_isSpan: function 36 -/
def L2_isSpan.f (a0_0 : Bool) (a0_1 : Bool) (a0_2 : Int) (a0_3 : Int) (a1 : Option Int) (a2_0 : Bool) (a2_1 : Bool) (a2_2 : Int) (a2_3 : Int) (a3 : Int) : Option (Bool) := if a3 > 0 then ((L2_coded.f a1 a3).bind fun t413 => (if t413 = true then (some (!a0_0 && (!a0_1 && (a0_2 == 0 && (a0_3 == 0))))) else (some false))) else (if a1.isNone = true then (some (a0_0 == a2_0 && (a0_1 == a2_1 && (a0_2 == a2_2 && (a0_3 == a2_3))))) else (some false))
set_option maxHeartbeats 8000000 in
set_option maxRecDepth 100000 in
theorem L2_isSpan.calls [EA] (a0_0 : Bool) (a0_1 : Bool) (a0_2 : Int) (a0_3 : Int) (a1 : Option Int) (a2_0 : Bool) (a2_1 : Bool) (a2_2 : Int) (a2_3 : Int) (a3 : Int) (r : Bool) (w : World) (h : L2_isSpan.f a0_0 a0_1 a0_2 a0_3 a1 a2_0 a2_1 a2_2 a2_3 a3 = some r) (h9_ : ErrAll w) :
  Calls Tryd.prog 36 #[.agg #[.bool a0_0, .bool a0_1, .int .i64 a0_2, .int .i64 a0_3], errW a1, .agg #[.bool a2_0, .bool a2_1, .int .i64 a2_2, .int .i64 a2_3], .int .i64 a3] w fun e w' => e = .returned (.bool r) ∧ Below w.heap.size w w' := by
 have hE9 := am h9_
 clear h9_
 have hu23 := Tryd.underlying23
 have hu28 := Tryd.underlying28
 have HB := am (Below.refl w.heap.size w)
 have H : (if a3 > 0 then ((L2_coded.f a1 a3).bind fun t413 => (if t413 = true then (some (!a0_0 && (!a0_1 && (a0_2 == 0 && (a0_3 == 0))))) else (some false))) else (if a1.isNone = true then (some (a0_0 == a2_0 && (a0_1 == a2_1 && (a0_2 == a2_2 && (a0_3 == a2_3))))) else (some false))) = some r := h
 clear h
 by_cases c5 : a3 > 0
 ·rw [if_pos c5] at H
  have c5b0 : decide (0 < a3) = true := decide_eq_true c5
  clear c5
  replace H := Option.bind_eq_some_iff.mp H
  obtain ⟨t413, A60, H⟩ := H
  replace H : (if t413 = true then (some (!a0_0 && (!a0_1 && (a0_2 == 0 && (a0_3 == 0))))) else (some false)) = some r := H
  have A6 := am A60
  clear A60
  by_cases c7 : t413 = true
  ·subst c7
   have H1 : (some (!a0_0 && (!a0_1 && (a0_2 == 0 && (a0_3 == 0))))) = some r := by rw [if_pos rfl] at H; exact H
   clear H
   have H := H1
   clear H1
   obtain rfl := Option.some.inj H
   go_enter Tryd.func36, Tryd.ntmps36
   go_wp2_with (first | ((with_reducible refine gate_dst (N := 4) rfl ?_); refine box_event ?hg (N := 4) ?hd (cs := #[.bool a0_0, .bool a0_1, .int .i64 a0_2, .int .i64 a0_3]) (t := 23) ?hr ?_; (case hd => rfl); (case hg => rfl); (case hr => first | (go_simp; done) | (go_simp; rfl)); intro gb411 hg w8 hbox hb; have n0_ := am (below_step pw hb); have n1_ := am (hbox); have n2_ := am ((by rw [hg]; exact (below_size pw) : w.heap.size ≤ gb411)); have n3_ := am ((by rw [hg]; exact (below_size pw) : w.heap.size ≤ gb411)); clear HB; have HB := n0_; have BK411 := n1_; have GW411 := n2_; have GE411 := n3_; clear n0_ n1_ n2_ n3_; clear hb hbox hg) | ((with_reducible refine gate_dst (N := 6) rfl ?_); refine box_event ?hg (N := 6) ?hd (cs := #[.bool a2_0, .bool a2_1, .int .i64 a2_2, .int .i64 a2_3]) (t := 23) ?hr ?_; (case hd => rfl); (case hg => rfl); (case hr => first | (go_simp; done) | (go_simp; rfl)); intro gb412 hg w9 hbox hb; have n0_ := bb BK411 hb; have n1_ := am (below_step pw hb); have n2_ := am (hbox); have n3_ := am ((by rw [hg]; exact (below_size pw) : w.heap.size ≤ gb412)); have n4_ := am ((by rw [hg]; exact (below_size pw) : w.heap.size ≤ gb412)); have n5_ := am ((by rw [hg]; exact Nat.ne_of_lt (blk_lt pk) : gb411 ≠ gb412)); have n6_ := am ((by rw [hg]; exact Nat.ne_of_gt (blk_lt pk) : gb412 ≠ gb411)); clear BK411; clear HB; have BK411 := n0_; have HB := n1_; have BK412 := n2_; have GW412 := n3_; have GE412 := n4_; have NB411_412 := n5_; have NB412_411 := n6_; clear n0_ n1_ n2_ n3_ n4_ n5_ n6_; clear hb hbox hg; have CA6 := fun (W : World) (hE9_ : ErrAll W) => L2_coded.calls a1 a3 true W A6.out hE9_; try simp only [errW_none, errW_some] at CA6) | (go_at_call 14; (with_reducible refine (CA6 _ (ErrAll.below hE9.out pw)).mono ?_); rintro e w10 ⟨rfl, hb⟩; have n0_ := bb BK411 hb; have n1_ := bb BK412 hb; have n2_ := am (below_step pw hb); clear BK411; clear BK412; clear HB; have BK411 := n0_; have BK412 := n1_; have HB := n2_; clear n0_ n1_ n2_; (try clear hb); (try clear hb2); (try clear hk); (try clear hi); have hnb11 := NB411_412.out; have hnc11 := NB412_411.out; have hcz12_0 : w10.cell? ⟨gb411, 0, none⟩ = some (.bool a0_0) := bc BK411 0; have hcz12_1 : w10.cell? ⟨gb411, 1, none⟩ = some (.bool a0_1) := bc BK411 1; have hcz12_2 : w10.cell? ⟨gb411, 2, none⟩ = some (.int .i64 a0_2) := bc BK411 2; have hcz12_3 : w10.cell? ⟨gb411, 3, none⟩ = some (.int .i64 a0_3) := bc BK411 3; have hfz12_0 := blk_frozen BK411.out 0; have hfz12_1 := blk_frozen BK411.out 1; have hfz12_2 := blk_frozen BK411.out 2; have hfz12_3 := blk_frozen BK411.out 3))
   go_ret
   exact ⟨pe, pw⟩
  replace c7 := Bool.eq_false_iff.mpr c7
  subst c7
  have H1 : (some false) = some r := by rw [if_neg (show ¬ (false = true) by decide)] at H; exact H
  clear H
  have H := H1
  clear H1
  obtain rfl := Option.some.inj H
  go_enter Tryd.func36, Tryd.ntmps36
  go_wp2_with (first | ((with_reducible refine gate_dst (N := 4) rfl ?_); refine box_event ?hg (N := 4) ?hd (cs := #[.bool a0_0, .bool a0_1, .int .i64 a0_2, .int .i64 a0_3]) (t := 23) ?hr ?_; (case hd => rfl); (case hg => rfl); (case hr => first | (go_simp; done) | (go_simp; rfl)); intro gb411 hg w13 hbox hb; have n0_ := am (below_step pw hb); have n1_ := am (hbox); have n2_ := am ((by rw [hg]; exact (below_size pw) : w.heap.size ≤ gb411)); have n3_ := am ((by rw [hg]; exact (below_size pw) : w.heap.size ≤ gb411)); clear HB; have HB := n0_; have BK411 := n1_; have GW411 := n2_; have GE411 := n3_; clear n0_ n1_ n2_ n3_; clear hb hbox hg) | ((with_reducible refine gate_dst (N := 6) rfl ?_); refine box_event ?hg (N := 6) ?hd (cs := #[.bool a2_0, .bool a2_1, .int .i64 a2_2, .int .i64 a2_3]) (t := 23) ?hr ?_; (case hd => rfl); (case hg => rfl); (case hr => first | (go_simp; done) | (go_simp; rfl)); intro gb412 hg w14 hbox hb; have n0_ := bb BK411 hb; have n1_ := am (below_step pw hb); have n2_ := am (hbox); have n3_ := am ((by rw [hg]; exact (below_size pw) : w.heap.size ≤ gb412)); have n4_ := am ((by rw [hg]; exact (below_size pw) : w.heap.size ≤ gb412)); have n5_ := am ((by rw [hg]; exact Nat.ne_of_lt (blk_lt pk) : gb411 ≠ gb412)); have n6_ := am ((by rw [hg]; exact Nat.ne_of_gt (blk_lt pk) : gb412 ≠ gb411)); clear BK411; clear HB; have BK411 := n0_; have HB := n1_; have BK412 := n2_; have GW412 := n3_; have GE412 := n4_; have NB411_412 := n5_; have NB412_411 := n6_; clear n0_ n1_ n2_ n3_ n4_ n5_ n6_; clear hb hbox hg; have CA6 := fun (W : World) (hE9_ : ErrAll W) => L2_coded.calls a1 a3 false W A6.out hE9_; try simp only [errW_none, errW_some] at CA6) | (go_at_call 14; (with_reducible refine (CA6 _ (ErrAll.below hE9.out pw)).mono ?_); rintro e w15 ⟨rfl, hb⟩; have n0_ := bb BK411 hb; have n1_ := bb BK412 hb; have n2_ := am (below_step pw hb); clear BK411; clear BK412; clear HB; have BK411 := n0_; have BK412 := n1_; have HB := n2_; clear n0_ n1_ n2_; (try clear hb); (try clear hb2); (try clear hk); (try clear hi)))
  go_ret
  exact ⟨pe, pw⟩
 rw [if_neg c5] at H
 have c5b0 : decide (0 < a3) = false := decide_eq_false c5
 clear c5
 rcases a1 with _ | q414
 ·have H1 : (some (a0_0 == a2_0 && (a0_1 == a2_1 && (a0_2 == a2_2 && (a0_3 == a2_3))))) = some r := by rw [if_pos (show (none : Option Int).isNone = true by rfl)] at H; exact H
  clear H
  have H := H1
  clear H1
  simp only [errW_none, errW_some]
  obtain rfl := Option.some.inj H
  go_enter Tryd.func36, Tryd.ntmps36
  go_wp2_with (first | ((with_reducible refine gate_dst (N := 4) rfl ?_); refine box_event ?hg (N := 4) ?hd (cs := #[.bool a0_0, .bool a0_1, .int .i64 a0_2, .int .i64 a0_3]) (t := 23) ?hr ?_; (case hd => rfl); (case hg => rfl); (case hr => first | (go_simp; done) | (go_simp; rfl)); intro gb411 hg w16 hbox hb; have n0_ := am (below_step pw hb); have n1_ := am (hbox); have n2_ := am ((by rw [hg]; exact (below_size pw) : w.heap.size ≤ gb411)); have n3_ := am ((by rw [hg]; exact (below_size pw) : w.heap.size ≤ gb411)); clear HB; have HB := n0_; have BK411 := n1_; have GW411 := n2_; have GE411 := n3_; clear n0_ n1_ n2_ n3_; clear hb hbox hg) | ((with_reducible refine gate_dst (N := 6) rfl ?_); refine box_event ?hg (N := 6) ?hd (cs := #[.bool a2_0, .bool a2_1, .int .i64 a2_2, .int .i64 a2_3]) (t := 23) ?hr ?_; (case hd => rfl); (case hg => rfl); (case hr => first | (go_simp; done) | (go_simp; rfl)); intro gb412 hg w17 hbox hb; have n0_ := bb BK411 hb; have n1_ := am (below_step pw hb); have n2_ := am (hbox); have n3_ := am ((by rw [hg]; exact (below_size pw) : w.heap.size ≤ gb412)); have n4_ := am ((by rw [hg]; exact (below_size pw) : w.heap.size ≤ gb412)); have n5_ := am ((by rw [hg]; exact Nat.ne_of_lt (blk_lt pk) : gb411 ≠ gb412)); have n6_ := am ((by rw [hg]; exact Nat.ne_of_gt (blk_lt pk) : gb412 ≠ gb411)); clear BK411; clear HB; have BK411 := n0_; have HB := n1_; have BK412 := n2_; have GW412 := n3_; have GE412 := n4_; have NB411_412 := n5_; have NB412_411 := n6_; clear n0_ n1_ n2_ n3_ n4_ n5_ n6_; clear hb hbox hg; have hnb18 := NB411_412.out; have hnc18 := NB412_411.out; have hcz19_0 : w17.cell? ⟨gb411, 0, none⟩ = some (.bool a0_0) := bc BK411 0; have hcz19_1 : w17.cell? ⟨gb411, 1, none⟩ = some (.bool a0_1) := bc BK411 1; have hcz19_2 : w17.cell? ⟨gb411, 2, none⟩ = some (.int .i64 a0_2) := bc BK411 2; have hcz19_3 : w17.cell? ⟨gb411, 3, none⟩ = some (.int .i64 a0_3) := bc BK411 3; have hfz19_0 := blk_frozen BK411.out 0; have hfz19_1 := blk_frozen BK411.out 1; have hfz19_2 := blk_frozen BK411.out 2; have hfz19_3 := blk_frozen BK411.out 3; have hcz20_0 : w17.cell? ⟨gb412, 0, none⟩ = some (.bool a2_0) := bc BK412 0; have hcz20_1 : w17.cell? ⟨gb412, 1, none⟩ = some (.bool a2_1) := bc BK412 1; have hcz20_2 : w17.cell? ⟨gb412, 2, none⟩ = some (.int .i64 a2_2) := bc BK412 2; have hcz20_3 : w17.cell? ⟨gb412, 3, none⟩ = some (.int .i64 a2_3) := bc BK412 3; have hfz20_0 := blk_frozen BK412.out 0; have hfz20_1 := blk_frozen BK412.out 1; have hfz20_2 := blk_frozen BK412.out 2; have hfz20_3 := blk_frozen BK412.out 3))
  go_ret
  exact ⟨pe, pw⟩
 have H1 : (some false) = some r := by rw [if_neg (show ¬ (some q414).isNone = true by simp)] at H; exact H
 clear H
 have H := H1
 clear H1
 simp only [errW_none, errW_some]
 obtain rfl := Option.some.inj H
 go_enter Tryd.func36, Tryd.ntmps36
 go_wp2_with (first | ((with_reducible refine gate_dst (N := 4) rfl ?_); refine box_event ?hg (N := 4) ?hd (cs := #[.bool a0_0, .bool a0_1, .int .i64 a0_2, .int .i64 a0_3]) (t := 23) ?hr ?_; (case hd => rfl); (case hg => rfl); (case hr => first | (go_simp; done) | (go_simp; rfl)); intro gb411 hg w21 hbox hb; have n0_ := am (below_step pw hb); have n1_ := am (hbox); have n2_ := am ((by rw [hg]; exact (below_size pw) : w.heap.size ≤ gb411)); have n3_ := am ((by rw [hg]; exact (below_size pw) : w.heap.size ≤ gb411)); clear HB; have HB := n0_; have BK411 := n1_; have GW411 := n2_; have GE411 := n3_; clear n0_ n1_ n2_ n3_; clear hb hbox hg) | ((with_reducible refine gate_dst (N := 6) rfl ?_); refine box_event ?hg (N := 6) ?hd (cs := #[.bool a2_0, .bool a2_1, .int .i64 a2_2, .int .i64 a2_3]) (t := 23) ?hr ?_; (case hd => rfl); (case hg => rfl); (case hr => first | (go_simp; done) | (go_simp; rfl)); intro gb412 hg w22 hbox hb; have n0_ := bb BK411 hb; have n1_ := am (below_step pw hb); have n2_ := am (hbox); have n3_ := am ((by rw [hg]; exact (below_size pw) : w.heap.size ≤ gb412)); have n4_ := am ((by rw [hg]; exact (below_size pw) : w.heap.size ≤ gb412)); have n5_ := am ((by rw [hg]; exact Nat.ne_of_lt (blk_lt pk) : gb411 ≠ gb412)); have n6_ := am ((by rw [hg]; exact Nat.ne_of_gt (blk_lt pk) : gb412 ≠ gb411)); clear BK411; clear HB; have BK411 := n0_; have HB := n1_; have BK412 := n2_; have GW412 := n3_; have GE412 := n4_; have NB411_412 := n5_; have NB412_411 := n6_; clear n0_ n1_ n2_ n3_ n4_ n5_ n6_; clear hb hbox hg))
 go_ret
 exact ⟨pe, pw⟩

/-! ### interval_far: function 55 -/
def interval_far.f (a0 : Int) : Option (Bool) := if a0 > 1099511627776 then (some true) else (some (decide (a0 < (-1099511627776))))
set_option maxHeartbeats 8000000 in
set_option maxRecDepth 100000 in
theorem interval_far.calls [EA] (a0 : Int) (r : Bool) (w : World) (h : interval_far.f a0 = some r) :
  Calls Tryd.prog 55 #[.int .i64 a0] w fun e w' => e = .returned (.bool r) ∧ Drawn0 w w' := by
 have H : (if a0 > 1099511627776 then (some true) else (some (decide (a0 < (-1099511627776))))) = some r := h
 clear h
 by_cases c2 : a0 > 1099511627776
 ·rw [if_pos c2] at H
  have c2b0 : decide (1099511627776 < a0) = true := decide_eq_true c2
  clear c2
  obtain rfl := Option.some.inj H
  go_enter Tryd.func55, Tryd.ntmps55
  go_wp2
  go_ret
  exact ⟨by first | rfl | (simp; done) | (simp [*]; done), by repeat (first | exact Drawn0.refl _ | apply Drawn0.step)⟩
 rw [if_neg c2] at H
 have c2b0 : decide (1099511627776 < a0) = false := decide_eq_false c2
 clear c2
 obtain rfl := Option.some.inj H
 go_enter Tryd.func55, Tryd.ntmps55
 go_wp2
 go_ret
 exact ⟨by first | rfl | (simp; done) | (simp [*]; done), by repeat (first | exact Drawn0.refl _ | apply Drawn0.step)⟩

end Go.Proofs.YtimgfgambeffeaaDoor.C
