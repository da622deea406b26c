-- Written by wip/xprint.py (the session's program over the kit's print).
import Derived.Test.YtjpboodkmhikpaaDoorEb
import Derived.Test.YtjpboodkmhikpaaDoorZ0
namespace Go.Proofs.YtjpboodkmhikpaaDoor.Z
open Go.RowKit Go.Proofs.YtjpboodkmhikpaaDoorW.PrintWords Go.Proofs.YtjpboodkmhikpaaDoorW.PrintLast Go.Proofs.YtjpboodkmhikpaaDoorW.PrintMore Go.Proofs.Rcg
attribute [local go_sem] max2_int min2_int max_two min_two max_three min_three max_four min_four   -- for this text's walks alone
set_option linter.unusedVariables false
set_option linter.unusedSimpArgs false

/-! ### L2_ints: function 28 -/
def L2_ints.f (l0 : List Int) : Option (List Int) := if ([] : List Int).length + l0.length < 17592186044416 then (some (([] : List Int) ++ l0)) else (none)
set_option maxHeartbeats 8000000 in
set_option maxRecDepth 100000 in
theorem L2_ints.calls [EA] (A0 : Option Addr) (c0 : Nat) (l0 : List Int) (r : List Int) (w : World) (hr0 : Kd.C (Kd.int .i64) w A0 l0.length l0) (hc0 : l0.length ≤ c0) (h : L2_ints.f l0 = some r) :
  Calls Tryd.prog 28 #[.slice A0 l0.length c0] w fun e w' => ∃ v0_ : Value, e = .returned (v0_) ∧ Kd.R (Kd.int .i64) 3 w' w.heap.size (fun _ => True) v0_ r ∧ Below w.heap.size w w' := by
 have HR0 := am hr0
 have HC0 := am hc0
 clear hr0 hc0
 have HB := am (Below.refl w.heap.size w)
 have H : (if ([] : List Int).length + l0.length < 17592186044416 then (some (([] : List Int) ++ l0)) else (none)) = some r := h
 clear h
 by_cases c2 : ([] : List Int).length + l0.length < 17592186044416
 ·rw [if_pos c2] at H
  have LMc2 := am c2
  clear c2
  obtain ⟨y302, hy302⟩ : ∃ y_ : List Int, y_ = (([] : List Int) ++ l0) := ⟨_, rfl⟩
  replace H : (some y302) = some r := by first | (rw [hy302]; with_reducible exact H) | (have H2_ := (Option.bind_some _ _).symm.trans H; rw [hy302]; with_reducible exact H2_) | (have H2_ := (Option.bind_some _ _).symm.trans H; with_reducible exact H2_) | with_reducible exact H | (rw [hy302]; exact H) | exact H
  have Ny302 := am hy302
  clear hy302
  obtain rfl := Option.some.inj H
  go_enter Tryd.func28, Tryd.ntmps28
  go_wp2_with (first | ((with_reducible refine gate_builtin (b := .append) (xs := #[.tmp 4, .tmp 5]) rfl ?_); at_builtin; refine Kd.R_append_rows (Kd.int .i64) (w0 := w) w.heap.size rfl (.tmp 4) (.tmp 5) 48 3 (.int .i64 0) 8 rfl Tryd.underlying48 info3 rfl (by decide) (by omega) (.slice none 0 0) ([] : List Int) l0 _ _ _ (fun _ => True) (fun _ => False) rfl rfl ?aO ?aR (fun _ _ h => h) (fun _ h => h.elim) ?aF ?aB ?aS ?aL ?_; (case aR => repeat (first | exact HR0.out | (with_reducible refine Kd.C_alloc ?_ _) | (with_reducible refine Kd.C_drewN ?_ _) | (with_reducible refine Kd.C_drew ?_))); (case aB => exact pw); (case aF => exact (fun _ _ => trivial)); (case aO => exact ((Kd.R_nil _ _ _ _ (fun _ => True)))); (case aS => exact (below_size pw)); (case aL => have := LMc2.out; omega); intro v303 w3 ho hb hg hat; rw [← Ny302.out] at ho; have n0_ := am (hb); have n1_ := am (ho); clear HB; have HB := n0_; have HO304 := n1_; clear n0_ n1_; clear ho hb hg hat))
  go_ret
  exact ⟨_, pe, by (with_reducible repeat (first | apply Kd.R_alloc | apply Kd.R_drewN | apply Kd.R_drew)); exact HO304.out, pw⟩
 rw [if_neg c2] at H
 exact absurd H (by simp)

/-! ### interval_far: function 80 -/
def interval_far.f (a0 : Int) : Option (Bool) := if a0 > 1099511627776 then (some true) else (some (decide (a0 < (-1099511627776))))
set_option maxHeartbeats 8000000 in
set_option maxRecDepth 100000 in
theorem interval_far.calls [EA] (a0 : Int) (r : Bool) (w : World) (h : interval_far.f a0 = some r) :
  Calls Tryd.prog 80 #[.int .i64 a0] w fun e w' => e = .returned (.bool r) ∧ Drawn0 w w' := by
 have H : (if a0 > 1099511627776 then (some true) else (some (decide (a0 < (-1099511627776))))) = some r := h
 clear h
 by_cases c2 : a0 > 1099511627776
 ·rw [if_pos c2] at H
  have c2b0 : decide (1099511627776 < a0) = true := decide_eq_true c2
  clear c2
  obtain rfl := Option.some.inj H
  go_enter Tryd.func80, Tryd.ntmps80
  go_wp2
  go_ret
  exact ⟨by first | rfl | (simp; done) | (simp [*]; done), by repeat (first | exact Drawn0.refl _ | apply Drawn0.step)⟩
 rw [if_neg c2] at H
 have c2b0 : decide (1099511627776 < a0) = false := decide_eq_false c2
 clear c2
 obtain rfl := Option.some.inj H
 go_enter Tryd.func80, Tryd.ntmps80
 go_wp2
 go_ret
 exact ⟨by first | rfl | (simp; done) | (simp [*]; done), by repeat (first | exact Drawn0.refl _ | apply Drawn0.step)⟩

/-! ### interval_Valid: function 90 -/
def interval_Valid.j0 : Nat → Bool → Bool → Bool → Int → Int → Option (Option Int)
 | 0, _, _, _, _, _ => none
 | k + 1, x35, x306000, x306001, x306002, x306003 => if x35 = true then (some (some 3)) else ((interval_far.f x306002).bind fun t306 => (if t306 = true then (some (some 2)) else ((interval_far.f x306003).bind fun t307 => (if t307 = true then (some (some 2)) else (some none)))))
def interval_Valid.f (k : Nat) (a0_0 : Bool) (a0_1 : Bool) (a0_2 : Int) (a0_3 : Int) : Option (Option Int) := if a0_0 = true then (if a0_2 = 0 then (if a0_1 = true then (if a0_3 = 0 then (interval_Valid.j0 k false a0_0 a0_1 a0_2 a0_3) else (interval_Valid.j0 k true a0_0 a0_1 a0_2 a0_3)) else (interval_Valid.j0 k false a0_0 a0_1 a0_2 a0_3)) else (interval_Valid.j0 k true a0_0 a0_1 a0_2 a0_3)) else (if a0_1 = true then (if a0_3 = 0 then (interval_Valid.j0 k false a0_0 a0_1 a0_2 a0_3) else (interval_Valid.j0 k true a0_0 a0_1 a0_2 a0_3)) else (interval_Valid.j0 k (decide (a0_2 > a0_3)) a0_0 a0_1 a0_2 a0_3))
theorem interval_Valid.mono_l : ∀ k, (∀ y0 y1 y2 y3 y4, LeO (interval_Valid.j0 k y0 y1 y2 y3 y4) (interval_Valid.j0 (k + 1) y0 y1 y2 y3 y4))
 | 0 => fun _ _ _ _ _ r h => by simp [interval_Valid.j0] at h
 | k + 1 => by
  have ih0 := interval_Valid.mono_l k
  intro y0 y1 y2 y3 y4
  unfold interval_Valid.j0
  repeat' first
  | (with_reducible exact ih0 _ _ _ _ _)
  | (with_reducible exact LeO.refl _)
  | (with_reducible exact LeO.none _)
  | (with_reducible refine LeO.ite ?_ ?_)
  | (with_reducible refine LeO.bind ?_ (fun _ => ?_))
  | exact ih0 _ _ _ _ _
  | exact LeO.none _
  | refine LeO.ite ?_ ?_
  | refine LeO.bind ?_ (fun _ => ?_)
theorem interval_Valid.mono : ∀ a0 a1 a2 a3 k, LeO (interval_Valid.f k a0 a1 a2 a3) (interval_Valid.f (k + 1) a0 a1 a2 a3) := by
 intro a0 a1 a2 a3 k
 have ih0 := interval_Valid.mono_l k
 unfold interval_Valid.f
 repeat' first
   | (with_reducible exact ih0 _ _ _ _ _)
   | (with_reducible exact LeO.refl _)
   | (with_reducible exact LeO.none _)
   | (with_reducible refine LeO.ite ?_ ?_)
   | (with_reducible refine LeO.bind ?_ (fun _ => ?_))
   | exact ih0 _ _ _ _ _
   | exact LeO.none _
   | refine LeO.ite ?_ ?_
   | refine LeO.bind ?_ (fun _ => ?_)
set_option maxHeartbeats 8000000 in
set_option maxRecDepth 100000 in
theorem interval_Valid.calls [EA] (k : Nat) (a0_0 : Bool) (a0_1 : Bool) (a0_2 : Int) (a0_3 : Int) (r : Option Int) (w : World) (h : interval_Valid.f k a0_0 a0_1 a0_2 a0_3 = some r) (h2_ : ErrAt 2 1 w) (h3_ : ErrAt 3 0 w) :
  Calls Tryd.prog 90 #[.agg #[.bool a0_0, .bool a0_1, .int .i64 a0_2, .int .i64 a0_3]] w fun e w' => e = .returned (errW r) ∧ Below w.heap.size w w' := by
 have hE2 := am h2_
 clear h2_
 have hE3 := am h3_
 clear h3_
 have hu46 := Tryd.underlying46
 have HB := am (Below.refl w.heap.size w)
 have H : (if a0_0 = true then (if a0_2 = 0 then (if a0_1 = true then (if a0_3 = 0 then (interval_Valid.j0 k false a0_0 a0_1 a0_2 a0_3) else (interval_Valid.j0 k true a0_0 a0_1 a0_2 a0_3)) else (interval_Valid.j0 k false a0_0 a0_1 a0_2 a0_3)) else (interval_Valid.j0 k true a0_0 a0_1 a0_2 a0_3)) else (if a0_1 = true then (if a0_3 = 0 then (interval_Valid.j0 k false a0_0 a0_1 a0_2 a0_3) else (interval_Valid.j0 k true a0_0 a0_1 a0_2 a0_3)) else (interval_Valid.j0 k (decide (a0_2 > a0_3)) a0_0 a0_1 a0_2 a0_3))) = some r := h
 clear h
 have HC2 := am H
 clear H
 go_enter Tryd.func90, Tryd.ntmps90
 go_upto_region 1 with (first | ((with_reducible refine gate_dst (N := 1) rfl ?_); refine box_event ?hg (N := 1) ?hd (cs := #[.bool a0_0, .bool a0_1, .int .i64 a0_2, .int .i64 a0_3]) (t := 46) ?hr ?_; (case hd => rfl); (case hg => rfl); (case hr => first | (go_simp; done) | (go_simp; rfl)); intro gb305 hg w3 hbox hb; have n0_ := am (below_step pw hb); have n1_ := am (hbox); have n2_ := am ((by rw [hg]; exact (below_size pw) : w.heap.size ≤ gb305)); have n3_ := am ((by rw [hg]; exact (below_size pw) : w.heap.size ≤ gb305)); clear HB; have HB := n0_; have BK305 := n1_; have GW305 := n2_; have GE305 := n3_; clear n0_ n1_ n2_ n3_; clear hb hbox hg))
 (try simp only [Act.put, List.setIfInBounds_toArray, List.set_cons_zero, List.set_cons_succ])
 go_cut [35] (fun v35 wc => ∃ (kq : Nat) (x35_1 : Bool), v35 = .bool x35_1 ∧ Aside0 (interval_Valid.j0 kq x35_1 a0_0 a0_1 a0_2 a0_3 = some r) ∧ Aside0 (kq ≤ k) ∧ Aside0 (wc.heap[gb305]? = some (.cells #[.bool a0_0, .bool a0_1, .int .i64 a0_2, .int .i64 a0_3] 46 (0, 0))) ∧ Aside0 (Below w.heap.size w wc))
 case first =>
  have H := HC2.out
  clear HC2
  by_cases c4 : a0_0 = true
  ·subst c4
   have H1 : (if a0_2 = 0 then (if a0_1 = true then (if a0_3 = 0 then (interval_Valid.j0 k false true a0_1 a0_2 a0_3) else (interval_Valid.j0 k true true a0_1 a0_2 a0_3)) else (interval_Valid.j0 k false true a0_1 a0_2 a0_3)) else (interval_Valid.j0 k true true a0_1 a0_2 a0_3)) = some r := by rw [if_pos rfl] at H; exact H
   clear H
   have H := H1
   clear H1
   by_cases c5 : a0_2 = 0
   ·rw [if_pos c5] at H
    have c5b0 : (a0_2 == 0) = true := beq_iff_eq.mpr c5
    have c5b1 : (a0_2 != 0) = false := bne_eq_false_iff_eq.mpr c5
    clear c5
    (first | rw [c5b0] | (simp only [i64_w, i32_w]; rw [c5b0]) | skip)
    by_cases c6 : a0_1 = true
    ·subst c6
     have H1 : (if a0_3 = 0 then (interval_Valid.j0 k false true true a0_2 a0_3) else (interval_Valid.j0 k true true true a0_2 a0_3)) = some r := by rw [if_pos rfl] at H; exact H
     clear H
     have H := H1
     clear H1
     by_cases c7 : a0_3 = 0
     ·rw [if_pos c7] at H
      have c7b0 : (a0_3 == 0) = true := beq_iff_eq.mpr c7
      have c7b1 : (a0_3 != 0) = false := bne_eq_false_iff_eq.mpr c7
      clear c7
      have H' := am H
      clear H
      have hcz8_0 : w3.cell? ⟨gb305, 0, none⟩ = some (.bool true) := bc BK305 0
      have hcz8_1 : w3.cell? ⟨gb305, 1, none⟩ = some (.bool true) := bc BK305 1
      have hcz8_2 : w3.cell? ⟨gb305, 2, none⟩ = some (.int .i64 a0_2) := bc BK305 2
      have hcz8_3 : w3.cell? ⟨gb305, 3, none⟩ = some (.int .i64 a0_3) := bc BK305 3
      have hfz8_0 := blk_frozen BK305.out 0
      have hfz8_1 := blk_frozen BK305.out 1
      have hfz8_2 := blk_frozen BK305.out 2
      have hfz8_3 := blk_frozen BK305.out 3
      go_wp2
      go_meet
      case rel => exact ⟨_, (false), pr, H', ⟨by first | omega | exact Nat.le_refl _⟩, ⟨pk⟩, ⟨pw⟩⟩
     rw [if_neg c7] at H
     have c7b0 : (a0_3 == 0) = false := beq_eq_false_iff_ne.mpr c7
     have c7b1 : (a0_3 != 0) = true := bne_iff_ne.mpr c7
     have H' := am H
     clear H
     have hcz9_0 : w3.cell? ⟨gb305, 0, none⟩ = some (.bool true) := bc BK305 0
     have hcz9_1 : w3.cell? ⟨gb305, 1, none⟩ = some (.bool true) := bc BK305 1
     have hcz9_2 : w3.cell? ⟨gb305, 2, none⟩ = some (.int .i64 a0_2) := bc BK305 2
     have hcz9_3 : w3.cell? ⟨gb305, 3, none⟩ = some (.int .i64 a0_3) := bc BK305 3
     have hfz9_0 := blk_frozen BK305.out 0
     have hfz9_1 := blk_frozen BK305.out 1
     have hfz9_2 := blk_frozen BK305.out 2
     have hfz9_3 := blk_frozen BK305.out 3
     go_wp2
     go_meet
     case rel => exact ⟨_, (true), pr, H', ⟨by first | omega | exact Nat.le_refl _⟩, ⟨pk⟩, ⟨pw⟩⟩
    replace c6 := Bool.eq_false_iff.mpr c6
    subst c6
    have H1 : (interval_Valid.j0 k false true false a0_2 a0_3) = some r := by rw [if_neg (show ¬ (false = true) by decide)] at H; exact H
    clear H
    have H := H1
    clear H1
    have H' := am H
    clear H
    have hcz10_0 : w3.cell? ⟨gb305, 0, none⟩ = some (.bool true) := bc BK305 0
    have hcz10_1 : w3.cell? ⟨gb305, 1, none⟩ = some (.bool false) := bc BK305 1
    have hcz10_2 : w3.cell? ⟨gb305, 2, none⟩ = some (.int .i64 a0_2) := bc BK305 2
    have hcz10_3 : w3.cell? ⟨gb305, 3, none⟩ = some (.int .i64 a0_3) := bc BK305 3
    have hfz10_0 := blk_frozen BK305.out 0
    have hfz10_1 := blk_frozen BK305.out 1
    have hfz10_2 := blk_frozen BK305.out 2
    have hfz10_3 := blk_frozen BK305.out 3
    go_wp2
    go_meet
    case rel => exact ⟨_, (false), pr, H', ⟨by first | omega | exact Nat.le_refl _⟩, ⟨pk⟩, ⟨pw⟩⟩
   rw [if_neg c5] at H
   have c5b0 : (a0_2 == 0) = false := beq_eq_false_iff_ne.mpr c5
   have c5b1 : (a0_2 != 0) = true := bne_iff_ne.mpr c5
   (first | rw [c5b0] | (simp only [i64_w, i32_w]; rw [c5b0]) | skip)
   have H' := am H
   clear H
   have hcz11_0 : w3.cell? ⟨gb305, 0, none⟩ = some (.bool true) := bc BK305 0
   have hcz11_1 : w3.cell? ⟨gb305, 1, none⟩ = some (.bool a0_1) := bc BK305 1
   have hcz11_2 : w3.cell? ⟨gb305, 2, none⟩ = some (.int .i64 a0_2) := bc BK305 2
   have hcz11_3 : w3.cell? ⟨gb305, 3, none⟩ = some (.int .i64 a0_3) := bc BK305 3
   have hfz11_0 := blk_frozen BK305.out 0
   have hfz11_1 := blk_frozen BK305.out 1
   have hfz11_2 := blk_frozen BK305.out 2
   have hfz11_3 := blk_frozen BK305.out 3
   go_wp2
   go_meet
   case rel => exact ⟨_, (true), pr, H', ⟨by first | omega | exact Nat.le_refl _⟩, ⟨pk⟩, ⟨pw⟩⟩
  replace c4 := Bool.eq_false_iff.mpr c4
  subst c4
  have H1 : (if a0_1 = true then (if a0_3 = 0 then (interval_Valid.j0 k false false a0_1 a0_2 a0_3) else (interval_Valid.j0 k true false a0_1 a0_2 a0_3)) else (interval_Valid.j0 k (decide (a0_2 > a0_3)) false a0_1 a0_2 a0_3)) = some r := by rw [if_neg (show ¬ (false = true) by decide)] at H; exact H
  clear H
  have H := H1
  clear H1
  by_cases c12 : a0_1 = true
  ·subst c12
   have H1 : (if a0_3 = 0 then (interval_Valid.j0 k false false true a0_2 a0_3) else (interval_Valid.j0 k true false true a0_2 a0_3)) = some r := by rw [if_pos rfl] at H; exact H
   clear H
   have H := H1
   clear H1
   by_cases c13 : a0_3 = 0
   ·rw [if_pos c13] at H
    have c13b0 : (a0_3 == 0) = true := beq_iff_eq.mpr c13
    have c13b1 : (a0_3 != 0) = false := bne_eq_false_iff_eq.mpr c13
    clear c13
    have H' := am H
    clear H
    have hcz14_0 : w3.cell? ⟨gb305, 0, none⟩ = some (.bool false) := bc BK305 0
    have hcz14_1 : w3.cell? ⟨gb305, 1, none⟩ = some (.bool true) := bc BK305 1
    have hcz14_2 : w3.cell? ⟨gb305, 2, none⟩ = some (.int .i64 a0_2) := bc BK305 2
    have hcz14_3 : w3.cell? ⟨gb305, 3, none⟩ = some (.int .i64 a0_3) := bc BK305 3
    have hfz14_0 := blk_frozen BK305.out 0
    have hfz14_1 := blk_frozen BK305.out 1
    have hfz14_2 := blk_frozen BK305.out 2
    have hfz14_3 := blk_frozen BK305.out 3
    go_wp2
    go_meet
    case rel => exact ⟨_, (false), pr, H', ⟨by first | omega | exact Nat.le_refl _⟩, ⟨pk⟩, ⟨pw⟩⟩
   rw [if_neg c13] at H
   have c13b0 : (a0_3 == 0) = false := beq_eq_false_iff_ne.mpr c13
   have c13b1 : (a0_3 != 0) = true := bne_iff_ne.mpr c13
   have H' := am H
   clear H
   have hcz15_0 : w3.cell? ⟨gb305, 0, none⟩ = some (.bool false) := bc BK305 0
   have hcz15_1 : w3.cell? ⟨gb305, 1, none⟩ = some (.bool true) := bc BK305 1
   have hcz15_2 : w3.cell? ⟨gb305, 2, none⟩ = some (.int .i64 a0_2) := bc BK305 2
   have hcz15_3 : w3.cell? ⟨gb305, 3, none⟩ = some (.int .i64 a0_3) := bc BK305 3
   have hfz15_0 := blk_frozen BK305.out 0
   have hfz15_1 := blk_frozen BK305.out 1
   have hfz15_2 := blk_frozen BK305.out 2
   have hfz15_3 := blk_frozen BK305.out 3
   go_wp2
   go_meet
   case rel => exact ⟨_, (true), pr, H', ⟨by first | omega | exact Nat.le_refl _⟩, ⟨pk⟩, ⟨pw⟩⟩
  replace c12 := Bool.eq_false_iff.mpr c12
  subst c12
  have H1 : (interval_Valid.j0 k (decide (a0_2 > a0_3)) false false a0_2 a0_3) = some r := by rw [if_neg (show ¬ (false = true) by decide)] at H; exact H
  clear H
  have H := H1
  clear H1
  have H' := am H
  clear H
  have hcz16_0 : w3.cell? ⟨gb305, 0, none⟩ = some (.bool false) := bc BK305 0
  have hcz16_1 : w3.cell? ⟨gb305, 1, none⟩ = some (.bool false) := bc BK305 1
  have hcz16_2 : w3.cell? ⟨gb305, 2, none⟩ = some (.int .i64 a0_2) := bc BK305 2
  have hcz16_3 : w3.cell? ⟨gb305, 3, none⟩ = some (.int .i64 a0_3) := bc BK305 3
  have hfz16_0 := blk_frozen BK305.out 0
  have hfz16_1 := blk_frozen BK305.out 1
  have hfz16_2 := blk_frozen BK305.out 2
  have hfz16_3 := blk_frozen BK305.out 3
  go_wp2
  go_meet
  case rel => exact ⟨_, (decide (a0_2 > a0_3)), pr, H', ⟨by first | omega | exact Nat.le_refl _⟩, ⟨pk⟩, ⟨pw⟩⟩
 clear HC2
 try clear c1
 try clear p2
 try clear c4
 try clear c5
 try clear c5b0
 try clear c5b1
 try clear c6
 try clear c7
 try clear c7b0
 try clear c7b1
 try clear c9
 try clear c12
 try clear c13
 try clear c13b0
 try clear c13b1
 try clear hcz10_0
 try clear hcz10_1
 try clear hcz10_2
 try clear hcz10_3
 try clear hcz11_0
 try clear hcz11_1
 try clear hcz11_2
 try clear hcz11_3
 try clear hcz14_0
 try clear hcz14_1
 try clear hcz14_2
 try clear hcz14_3
 try clear hcz15_0
 try clear hcz15_1
 try clear hcz15_2
 try clear hcz15_3
 try clear hcz16_0
 try clear hcz16_1
 try clear hcz16_2
 try clear hcz16_3
 try clear hcz8_0
 try clear hcz8_1
 try clear hcz8_2
 try clear hcz8_3
 try clear hcz9_0
 try clear hcz9_1
 try clear hcz9_2
 try clear hcz9_3
 try clear hfz10_0
 try clear hfz10_1
 try clear hfz10_2
 try clear hfz10_3
 try clear hfz11_0
 try clear hfz11_1
 try clear hfz11_2
 try clear hfz11_3
 try clear hfz14_0
 try clear hfz14_1
 try clear hfz14_2
 try clear hfz14_3
 try clear hfz15_0
 try clear hfz15_1
 try clear hfz15_2
 try clear hfz15_3
 try clear hfz16_0
 try clear hfz16_1
 try clear hfz16_2
 try clear hfz16_3
 try clear hfz8_0
 try clear hfz8_1
 try clear hfz8_2
 try clear hfz8_3
 try clear hfz9_0
 try clear hfz9_1
 try clear hfz9_2
 try clear hfz9_3
 obtain ⟨kq, x35_1, rfl, HA, HJ1, BK305, HB⟩ := hcut
 cases kq with
 | zero => exact absurd HA.out (by simp [interval_Valid.j0])
 | succ kj1 =>
  have H := HA.out
  clear HA
  simp only [interval_Valid.j0] at H
  by_cases c17 : x35_1 = true
  ·subst c17
   have H1 : (some (some 3)) = some r := by rw [if_pos rfl] at H; exact H
   clear H
   have H := H1
   clear H1
   obtain rfl := Option.some.inj H
   have hgmx1 : 0 < w.heap.size := ErrAt.lt hE3.out
   have hglx1 : wc.cell? ⟨0, 0, none⟩ = some (.iface 167 (.pointer (some (EA.adr 3)))) := (ErrAt.below hE3.out HB.out).cell
   have hgnx1 : 0 < wc.heap.size := World.block_lt_of_cell? _ _ hglx1
   have hgbx1_305 := Nat.ne_of_lt (Nat.lt_of_lt_of_le hgmx1 GE305.out)
   have hgcx1_305 := Nat.ne_of_gt (Nat.lt_of_lt_of_le hgmx1 GE305.out)
   go_wp2
   go_ret
   exact ⟨pe, pw⟩
  replace c17 := Bool.eq_false_iff.mpr c17
  subst c17
  have H1 : ((interval_far.f a0_2).bind fun t306 => (if t306 = true then (some (some 2)) else ((interval_far.f a0_3).bind fun t307 => (if t307 = true then (some (some 2)) else (some none))))) = some r := by rw [if_neg (show ¬ (false = true) by decide)] at H; exact H
  clear H
  have H := H1
  clear H1
  replace H := Option.bind_eq_some_iff.mp H
  obtain ⟨t306, A180, H⟩ := H
  replace H : (if t306 = true then (some (some 2)) else ((interval_far.f a0_3).bind fun t307 => (if t307 = true then (some (some 2)) else (some none)))) = some r := H
  have A18 := am A180
  clear A180
  by_cases c19 : t306 = true
  ·subst c19
   have H1 : (some (some 2)) = some r := by rw [if_pos rfl] at H; exact H
   clear H
   have H := H1
   clear H1
   obtain rfl := Option.some.inj H
   have hcz20_0 : wc.cell? ⟨gb305, 0, none⟩ = some (.bool a0_0) := bc BK305 0
   have hcz20_1 : wc.cell? ⟨gb305, 1, none⟩ = some (.bool a0_1) := bc BK305 1
   have hcz20_2 : wc.cell? ⟨gb305, 2, none⟩ = some (.int .i64 a0_2) := bc BK305 2
   have hcz20_3 : wc.cell? ⟨gb305, 3, none⟩ = some (.int .i64 a0_3) := bc BK305 3
   have hfz20_0 := blk_frozen BK305.out 0
   have hfz20_1 := blk_frozen BK305.out 1
   have hfz20_2 := blk_frozen BK305.out 2
   have hfz20_3 := blk_frozen BK305.out 3
   go_wp2_with (first | ((with_reducible refine gate_callee (f := 80) rfl ?_); refine goesL_ (some 39) rfl rfl Tryd.func80 kk rfl #[.int .i64 a0_2] rfl (by (try simp only [List.map_toArray, List.map_cons, List.map_nil]); first | done | rfl | (simp only [List.length_drop, List.length_take]; rfl)) ?_; (with_reducible refine (interval_far.calls a0_2 true _ A18.out).mono ?_); rintro e w' ⟨rfl, ⟨nd, rfl⟩⟩; refine ⟨_, rfl, ?_⟩; have hgmx2 : 1 < w.heap.size := ErrAt.lt hE2.out; have hglx2 : wc.cell? ⟨1, 0, none⟩ = some (.iface 167 (.pointer (some (EA.adr 2)))) := (ErrAt.below hE2.out HB.out).cell; have hgnx2 : 1 < wc.heap.size := World.block_lt_of_cell? _ _ hglx2; have hgbx2_305 := Nat.ne_of_lt (Nat.lt_of_lt_of_le hgmx2 GE305.out); have hgcx2_305 := Nat.ne_of_gt (Nat.lt_of_lt_of_le hgmx2 GE305.out)))
   go_ret
   exact ⟨pe, pw⟩
  replace c19 := Bool.eq_false_iff.mpr c19
  subst c19
  have H1 : ((interval_far.f a0_3).bind fun t307 => (if t307 = true then (some (some 2)) else (some none))) = some r := by rw [if_neg (show ¬ (false = true) by decide)] at H; exact H
  clear H
  have H := H1
  clear H1
  replace H := Option.bind_eq_some_iff.mp H
  obtain ⟨t307, A210, H⟩ := H
  replace H : (if t307 = true then (some (some 2)) else (some none)) = some r := H
  have A21 := am A210
  clear A210
  by_cases c22 : t307 = true
  ·subst c22
   have H1 : (some (some 2)) = some r := by rw [if_pos rfl] at H; exact H
   clear H
   have H := H1
   clear H1
   obtain rfl := Option.some.inj H
   have hcz23_0 : wc.cell? ⟨gb305, 0, none⟩ = some (.bool a0_0) := bc BK305 0
   have hcz23_1 : wc.cell? ⟨gb305, 1, none⟩ = some (.bool a0_1) := bc BK305 1
   have hcz23_2 : wc.cell? ⟨gb305, 2, none⟩ = some (.int .i64 a0_2) := bc BK305 2
   have hcz23_3 : wc.cell? ⟨gb305, 3, none⟩ = some (.int .i64 a0_3) := bc BK305 3
   have hfz23_0 := blk_frozen BK305.out 0
   have hfz23_1 := blk_frozen BK305.out 1
   have hfz23_2 := blk_frozen BK305.out 2
   have hfz23_3 := blk_frozen BK305.out 3
   go_wp2_with (first | ((with_reducible refine gate_callee (f := 80) rfl ?_); refine goesL_ (some 39) rfl rfl Tryd.func80 kk rfl #[.int .i64 a0_2] rfl (by (try simp only [List.map_toArray, List.map_cons, List.map_nil]); first | done | rfl | (simp only [List.length_drop, List.length_take]; rfl)) ?_; (with_reducible refine (interval_far.calls a0_2 false _ A18.out).mono ?_); rintro e w' ⟨rfl, ⟨nd, rfl⟩⟩; refine ⟨_, rfl, ?_⟩) | (go_at_call 80; (with_reducible refine (interval_far.calls a0_3 true _ A21.out).mono ?_); rintro e w' ⟨rfl, ⟨nd, rfl⟩⟩; have hgmx3 : 1 < w.heap.size := ErrAt.lt hE2.out; have hglx3 : wc.cell? ⟨1, 0, none⟩ = some (.iface 167 (.pointer (some (EA.adr 2)))) := (ErrAt.below hE2.out HB.out).cell; have hgnx3 : 1 < wc.heap.size := World.block_lt_of_cell? _ _ hglx3; have hgbx3_305 := Nat.ne_of_lt (Nat.lt_of_lt_of_le hgmx3 GE305.out); have hgcx3_305 := Nat.ne_of_gt (Nat.lt_of_lt_of_le hgmx3 GE305.out)))
   go_ret
   exact ⟨pe, pw⟩
  replace c22 := Bool.eq_false_iff.mpr c22
  subst c22
  have H1 : (some none) = some r := by rw [if_neg (show ¬ (false = true) by decide)] at H; exact H
  clear H
  have H := H1
  clear H1
  obtain rfl := Option.some.inj H
  have hcz24_0 : wc.cell? ⟨gb305, 0, none⟩ = some (.bool a0_0) := bc BK305 0
  have hcz24_1 : wc.cell? ⟨gb305, 1, none⟩ = some (.bool a0_1) := bc BK305 1
  have hcz24_2 : wc.cell? ⟨gb305, 2, none⟩ = some (.int .i64 a0_2) := bc BK305 2
  have hcz24_3 : wc.cell? ⟨gb305, 3, none⟩ = some (.int .i64 a0_3) := bc BK305 3
  have hfz24_0 := blk_frozen BK305.out 0
  have hfz24_1 := blk_frozen BK305.out 1
  have hfz24_2 := blk_frozen BK305.out 2
  have hfz24_3 := blk_frozen BK305.out 3
  go_wp2_with (first | ((with_reducible refine gate_callee (f := 80) rfl ?_); refine goesL_ (some 39) rfl rfl Tryd.func80 kk rfl #[.int .i64 a0_2] rfl (by (try simp only [List.map_toArray, List.map_cons, List.map_nil]); first | done | rfl | (simp only [List.length_drop, List.length_take]; rfl)) ?_; (with_reducible refine (interval_far.calls a0_2 false _ A18.out).mono ?_); rintro e w' ⟨rfl, ⟨nd, rfl⟩⟩; refine ⟨_, rfl, ?_⟩) | (go_at_call 80; (with_reducible refine (interval_far.calls a0_3 false _ A21.out).mono ?_); rintro e w' ⟨rfl, ⟨nd, rfl⟩⟩))
  go_ret
  exact ⟨pe, pw⟩

/-! ### interval_Has: function 38 -/
def interval_Has.f (k : Nat) (a0_0 : Bool) (a0_1 : Bool) (a0_2 : Int) (a0_3 : Int) (a1 : Int) : Option (Bool) := (interval_Valid.f k a0_0 a0_1 a0_2 a0_3).bind fun t309 => (if t309.isNone = true then (if a0_0 = true then (if a0_1 = true then (some true) else (some (decide (a1 ≤ a0_3)))) else (if a0_2 ≤ a1 then (if a0_1 = true then (some true) else (some (decide (a1 ≤ a0_3)))) else (some false))) else (some false))
theorem interval_Has.mono : ∀ a0 a1 a2 a3 a4 k, LeO (interval_Has.f k a0 a1 a2 a3 a4) (interval_Has.f (k + 1) a0 a1 a2 a3 a4) := by
 intro a0 a1 a2 a3 a4 k
 unfold interval_Has.f
 repeat' first
   | (with_reducible exact interval_Valid.mono _ _ _ _ _)
   | (with_reducible exact LeO.refl _)
   | (with_reducible exact LeO.none _)
   | (with_reducible refine LeO.ite ?_ ?_)
   | (with_reducible refine LeO.bind ?_ (fun _ => ?_))
   | exact interval_Valid.mono _ _ _ _ _
   | exact LeO.none _
   | refine LeO.ite ?_ ?_
   | refine LeO.bind ?_ (fun _ => ?_)
set_option maxHeartbeats 8000000 in
set_option maxRecDepth 100000 in
theorem interval_Has.calls [EA] (k : Nat) (a0_0 : Bool) (a0_1 : Bool) (a0_2 : Int) (a0_3 : Int) (a1 : Int) (r : Bool) (w : World) (h : interval_Has.f k a0_0 a0_1 a0_2 a0_3 a1 = some r) (h2_ : ErrAt 2 1 w) (h3_ : ErrAt 3 0 w) :
  Calls Tryd.prog 38 #[.agg #[.bool a0_0, .bool a0_1, .int .i64 a0_2, .int .i64 a0_3], .int .i64 a1] w fun e w' => e = .returned (.bool r) ∧ Below w.heap.size w w' := by
 have hE2 := am h2_
 clear h2_
 have hE3 := am h3_
 clear h3_
 have hu46 := Tryd.underlying46
 have hu26 := Tryd.underlying26
 have HB := am (Below.refl w.heap.size w)
 have H : ((interval_Valid.f k a0_0 a0_1 a0_2 a0_3).bind fun t309 => (if t309.isNone = true then (if a0_0 = true then (if a0_1 = true then (some true) else (some (decide (a1 ≤ a0_3)))) else (if a0_2 ≤ a1 then (if a0_1 = true then (some true) else (some (decide (a1 ≤ a0_3)))) else (some false))) else (some false))) = some r := h
 clear h
 replace H := Option.bind_eq_some_iff.mp H
 obtain ⟨t309, A30, H⟩ := H
 replace H : (if t309.isNone = true then (if a0_0 = true then (if a0_1 = true then (some true) else (some (decide (a1 ≤ a0_3)))) else (if a0_2 ≤ a1 then (if a0_1 = true then (some true) else (some (decide (a1 ≤ a0_3)))) else (some false))) else (some false)) = some r := H
 have A3 := am A30
 clear A30
 rcases t309 with _ | q310
 ·have H1 : (if a0_0 = true then (if a0_1 = true then (some true) else (some (decide (a1 ≤ a0_3)))) else (if a0_2 ≤ a1 then (if a0_1 = true then (some true) else (some (decide (a1 ≤ a0_3)))) else (some false))) = some r := by rw [if_pos (show (none : Option Int).isNone = true by rfl)] at H; exact H
  clear H
  have H := H1
  clear H1
  try simp only [errW_none, errW_some]
  by_cases c4 : a0_0 = true
  ·subst c4
   have H1 : (if a0_1 = true then (some true) else (some (decide (a1 ≤ a0_3)))) = some r := by rw [if_pos rfl] at H; exact H
   clear H
   have H := H1
   clear H1
   by_cases c5 : a0_1 = true
   ·subst c5
    have H1 : (some true) = some r := by rw [if_pos rfl] at H; exact H
    clear H
    have H := H1
    clear H1
    obtain rfl := Option.some.inj H
    go_enter Tryd.func38, Tryd.ntmps38
    go_wp2_with (first | ((with_reducible refine gate_dst (N := 2) rfl ?_); refine box_event ?hg (N := 2) ?hd (cs := #[.bool true, .bool true, .int .i64 a0_2, .int .i64 a0_3]) (t := 46) ?hr ?_; (case hd => rfl); (case hg => rfl); (case hr => first | (go_simp; done) | (go_simp; rfl)); intro gb308 hg w6 hbox hb; have n0_ := am (below_step pw hb); have n1_ := am (hbox); have n2_ := am ((by rw [hg]; exact (below_size pw) : w.heap.size ≤ gb308)); have n3_ := am ((by rw [hg]; exact (below_size pw) : w.heap.size ≤ gb308)); clear HB; have HB := n0_; have BK308 := n1_; have GW308 := n2_; have GE308 := n3_; clear n0_ n1_ n2_ n3_; clear hb hbox hg; have hcz7_0 : w6.cell? ⟨gb308, 0, none⟩ = some (.bool true) := bc BK308 0; have hcz7_1 : w6.cell? ⟨gb308, 1, none⟩ = some (.bool true) := bc BK308 1; have hcz7_2 : w6.cell? ⟨gb308, 2, none⟩ = some (.int .i64 a0_2) := bc BK308 2; have hcz7_3 : w6.cell? ⟨gb308, 3, none⟩ = some (.int .i64 a0_3) := bc BK308 3; have hfz7_0 := blk_frozen BK308.out 0; have hfz7_1 := blk_frozen BK308.out 1; have hfz7_2 := blk_frozen BK308.out 2; have hfz7_3 := blk_frozen BK308.out 3) | ((with_reducible refine gate_callee (f := 90) rfl ?_); refine goesL_ (some 6) rfl rfl Tryd.func90 kk rfl #[.agg #[.bool true, .bool true, .int .i64 a0_2, .int .i64 a0_3]] rfl (by (try simp only [List.map_toArray, List.map_cons, List.map_nil]); first | done | rfl | (simp only [List.length_drop, List.length_take]; rfl)) ?_; (with_reducible refine (interval_Valid.calls k true true a0_2 a0_3 none _ A3.out (am (ErrAt.below hE2.out pw)).out (am (ErrAt.below hE3.out pw)).out).mono ?_); rintro e w8 ⟨rfl, hb⟩; refine ⟨_, rfl, ?_⟩; have n0_ := bb BK308 hb; have n1_ := am (below_step pw hb); clear BK308; clear HB; have BK308 := n0_; have HB := n1_; clear n0_ n1_; (try clear hb); (try clear hb2); (try clear hk); (try clear hi); (try simp only [errW_none, errW_some]); have hcz9_0 : w8.cell? ⟨gb308, 0, none⟩ = some (.bool true) := bc BK308 0; have hcz9_1 : w8.cell? ⟨gb308, 1, none⟩ = some (.bool true) := bc BK308 1; have hcz9_2 : w8.cell? ⟨gb308, 2, none⟩ = some (.int .i64 a0_2) := bc BK308 2; have hcz9_3 : w8.cell? ⟨gb308, 3, none⟩ = some (.int .i64 a0_3) := bc BK308 3; have hfz9_0 := blk_frozen BK308.out 0; have hfz9_1 := blk_frozen BK308.out 1; have hfz9_2 := blk_frozen BK308.out 2; have hfz9_3 := blk_frozen BK308.out 3))
    go_ret
    exact ⟨pe, pw⟩
   replace c5 := Bool.eq_false_iff.mpr c5
   subst c5
   have H1 : (some (decide (a1 ≤ a0_3))) = some r := by rw [if_neg (show ¬ (false = true) by decide)] at H; exact H
   clear H
   have H := H1
   clear H1
   obtain rfl := Option.some.inj H
   go_enter Tryd.func38, Tryd.ntmps38
   go_wp2_with (first | ((with_reducible refine gate_dst (N := 2) rfl ?_); refine box_event ?hg (N := 2) ?hd (cs := #[.bool true, .bool false, .int .i64 a0_2, .int .i64 a0_3]) (t := 46) ?hr ?_; (case hd => rfl); (case hg => rfl); (case hr => first | (go_simp; done) | (go_simp; rfl)); intro gb308 hg w10 hbox hb; have n0_ := am (below_step pw hb); have n1_ := am (hbox); have n2_ := am ((by rw [hg]; exact (below_size pw) : w.heap.size ≤ gb308)); have n3_ := am ((by rw [hg]; exact (below_size pw) : w.heap.size ≤ gb308)); clear HB; have HB := n0_; have BK308 := n1_; have GW308 := n2_; have GE308 := n3_; clear n0_ n1_ n2_ n3_; clear hb hbox hg; have hcz11_0 : w10.cell? ⟨gb308, 0, none⟩ = some (.bool true) := bc BK308 0; have hcz11_1 : w10.cell? ⟨gb308, 1, none⟩ = some (.bool false) := bc BK308 1; have hcz11_2 : w10.cell? ⟨gb308, 2, none⟩ = some (.int .i64 a0_2) := bc BK308 2; have hcz11_3 : w10.cell? ⟨gb308, 3, none⟩ = some (.int .i64 a0_3) := bc BK308 3; have hfz11_0 := blk_frozen BK308.out 0; have hfz11_1 := blk_frozen BK308.out 1; have hfz11_2 := blk_frozen BK308.out 2; have hfz11_3 := blk_frozen BK308.out 3) | ((with_reducible refine gate_callee (f := 90) rfl ?_); refine goesL_ (some 6) rfl rfl Tryd.func90 kk rfl #[.agg #[.bool true, .bool false, .int .i64 a0_2, .int .i64 a0_3]] rfl (by (try simp only [List.map_toArray, List.map_cons, List.map_nil]); first | done | rfl | (simp only [List.length_drop, List.length_take]; rfl)) ?_; (with_reducible refine (interval_Valid.calls k true false a0_2 a0_3 none _ A3.out (am (ErrAt.below hE2.out pw)).out (am (ErrAt.below hE3.out pw)).out).mono ?_); rintro e w12 ⟨rfl, hb⟩; refine ⟨_, rfl, ?_⟩; have n0_ := bb BK308 hb; have n1_ := am (below_step pw hb); clear BK308; clear HB; have BK308 := n0_; have HB := n1_; clear n0_ n1_; (try clear hb); (try clear hb2); (try clear hk); (try clear hi); (try simp only [errW_none, errW_some]); have hcz13_0 : w12.cell? ⟨gb308, 0, none⟩ = some (.bool true) := bc BK308 0; have hcz13_1 : w12.cell? ⟨gb308, 1, none⟩ = some (.bool false) := bc BK308 1; have hcz13_2 : w12.cell? ⟨gb308, 2, none⟩ = some (.int .i64 a0_2) := bc BK308 2; have hcz13_3 : w12.cell? ⟨gb308, 3, none⟩ = some (.int .i64 a0_3) := bc BK308 3; have hfz13_0 := blk_frozen BK308.out 0; have hfz13_1 := blk_frozen BK308.out 1; have hfz13_2 := blk_frozen BK308.out 2; have hfz13_3 := blk_frozen BK308.out 3))
   go_ret
   exact ⟨pe, pw⟩
  replace c4 := Bool.eq_false_iff.mpr c4
  subst c4
  have H1 : (if a0_2 ≤ a1 then (if a0_1 = true then (some true) else (some (decide (a1 ≤ a0_3)))) else (some false)) = some r := by rw [if_neg (show ¬ (false = true) by decide)] at H; exact H
  clear H
  have H := H1
  clear H1
  by_cases c14 : a0_2 ≤ a1
  ·rw [if_pos c14] at H
   have c14b0 : decide (a0_2 ≤ a1) = true := decide_eq_true c14
   clear c14
   by_cases c15 : a0_1 = true
   ·subst c15
    have H1 : (some true) = some r := by rw [if_pos rfl] at H; exact H
    clear H
    have H := H1
    clear H1
    obtain rfl := Option.some.inj H
    go_enter Tryd.func38, Tryd.ntmps38
    go_wp2_with (first | ((with_reducible refine gate_dst (N := 2) rfl ?_); refine box_event ?hg (N := 2) ?hd (cs := #[.bool false, .bool true, .int .i64 a0_2, .int .i64 a0_3]) (t := 46) ?hr ?_; (case hd => rfl); (case hg => rfl); (case hr => first | (go_simp; done) | (go_simp; rfl)); intro gb308 hg w16 hbox hb; have n0_ := am (below_step pw hb); have n1_ := am (hbox); have n2_ := am ((by rw [hg]; exact (below_size pw) : w.heap.size ≤ gb308)); have n3_ := am ((by rw [hg]; exact (below_size pw) : w.heap.size ≤ gb308)); clear HB; have HB := n0_; have BK308 := n1_; have GW308 := n2_; have GE308 := n3_; clear n0_ n1_ n2_ n3_; clear hb hbox hg; have hcz17_0 : w16.cell? ⟨gb308, 0, none⟩ = some (.bool false) := bc BK308 0; have hcz17_1 : w16.cell? ⟨gb308, 1, none⟩ = some (.bool true) := bc BK308 1; have hcz17_2 : w16.cell? ⟨gb308, 2, none⟩ = some (.int .i64 a0_2) := bc BK308 2; have hcz17_3 : w16.cell? ⟨gb308, 3, none⟩ = some (.int .i64 a0_3) := bc BK308 3; have hfz17_0 := blk_frozen BK308.out 0; have hfz17_1 := blk_frozen BK308.out 1; have hfz17_2 := blk_frozen BK308.out 2; have hfz17_3 := blk_frozen BK308.out 3) | ((with_reducible refine gate_callee (f := 90) rfl ?_); refine goesL_ (some 6) rfl rfl Tryd.func90 kk rfl #[.agg #[.bool false, .bool true, .int .i64 a0_2, .int .i64 a0_3]] rfl (by (try simp only [List.map_toArray, List.map_cons, List.map_nil]); first | done | rfl | (simp only [List.length_drop, List.length_take]; rfl)) ?_; (with_reducible refine (interval_Valid.calls k false true a0_2 a0_3 none _ A3.out (am (ErrAt.below hE2.out pw)).out (am (ErrAt.below hE3.out pw)).out).mono ?_); rintro e w18 ⟨rfl, hb⟩; refine ⟨_, rfl, ?_⟩; have n0_ := bb BK308 hb; have n1_ := am (below_step pw hb); clear BK308; clear HB; have BK308 := n0_; have HB := n1_; clear n0_ n1_; (try clear hb); (try clear hb2); (try clear hk); (try clear hi); (try simp only [errW_none, errW_some]); have hcz19_0 : w18.cell? ⟨gb308, 0, none⟩ = some (.bool false) := bc BK308 0; have hcz19_1 : w18.cell? ⟨gb308, 1, none⟩ = some (.bool true) := bc BK308 1; have hcz19_2 : w18.cell? ⟨gb308, 2, none⟩ = some (.int .i64 a0_2) := bc BK308 2; have hcz19_3 : w18.cell? ⟨gb308, 3, none⟩ = some (.int .i64 a0_3) := bc BK308 3; have hfz19_0 := blk_frozen BK308.out 0; have hfz19_1 := blk_frozen BK308.out 1; have hfz19_2 := blk_frozen BK308.out 2; have hfz19_3 := blk_frozen BK308.out 3))
    go_ret
    exact ⟨pe, pw⟩
   replace c15 := Bool.eq_false_iff.mpr c15
   subst c15
   have H1 : (some (decide (a1 ≤ a0_3))) = some r := by rw [if_neg (show ¬ (false = true) by decide)] at H; exact H
   clear H
   have H := H1
   clear H1
   obtain rfl := Option.some.inj H
   go_enter Tryd.func38, Tryd.ntmps38
   go_wp2_with (first | ((with_reducible refine gate_dst (N := 2) rfl ?_); refine box_event ?hg (N := 2) ?hd (cs := #[.bool false, .bool false, .int .i64 a0_2, .int .i64 a0_3]) (t := 46) ?hr ?_; (case hd => rfl); (case hg => rfl); (case hr => first | (go_simp; done) | (go_simp; rfl)); intro gb308 hg w20 hbox hb; have n0_ := am (below_step pw hb); have n1_ := am (hbox); have n2_ := am ((by rw [hg]; exact (below_size pw) : w.heap.size ≤ gb308)); have n3_ := am ((by rw [hg]; exact (below_size pw) : w.heap.size ≤ gb308)); clear HB; have HB := n0_; have BK308 := n1_; have GW308 := n2_; have GE308 := n3_; clear n0_ n1_ n2_ n3_; clear hb hbox hg; have hcz21_0 : w20.cell? ⟨gb308, 0, none⟩ = some (.bool false) := bc BK308 0; have hcz21_1 : w20.cell? ⟨gb308, 1, none⟩ = some (.bool false) := bc BK308 1; have hcz21_2 : w20.cell? ⟨gb308, 2, none⟩ = some (.int .i64 a0_2) := bc BK308 2; have hcz21_3 : w20.cell? ⟨gb308, 3, none⟩ = some (.int .i64 a0_3) := bc BK308 3; have hfz21_0 := blk_frozen BK308.out 0; have hfz21_1 := blk_frozen BK308.out 1; have hfz21_2 := blk_frozen BK308.out 2; have hfz21_3 := blk_frozen BK308.out 3) | ((with_reducible refine gate_callee (f := 90) rfl ?_); refine goesL_ (some 6) rfl rfl Tryd.func90 kk rfl #[.agg #[.bool false, .bool false, .int .i64 a0_2, .int .i64 a0_3]] rfl (by (try simp only [List.map_toArray, List.map_cons, List.map_nil]); first | done | rfl | (simp only [List.length_drop, List.length_take]; rfl)) ?_; (with_reducible refine (interval_Valid.calls k false false a0_2 a0_3 none _ A3.out (am (ErrAt.below hE2.out pw)).out (am (ErrAt.below hE3.out pw)).out).mono ?_); rintro e w22 ⟨rfl, hb⟩; refine ⟨_, rfl, ?_⟩; have n0_ := bb BK308 hb; have n1_ := am (below_step pw hb); clear BK308; clear HB; have BK308 := n0_; have HB := n1_; clear n0_ n1_; (try clear hb); (try clear hb2); (try clear hk); (try clear hi); (try simp only [errW_none, errW_some]); have hcz23_0 : w22.cell? ⟨gb308, 0, none⟩ = some (.bool false) := bc BK308 0; have hcz23_1 : w22.cell? ⟨gb308, 1, none⟩ = some (.bool false) := bc BK308 1; have hcz23_2 : w22.cell? ⟨gb308, 2, none⟩ = some (.int .i64 a0_2) := bc BK308 2; have hcz23_3 : w22.cell? ⟨gb308, 3, none⟩ = some (.int .i64 a0_3) := bc BK308 3; have hfz23_0 := blk_frozen BK308.out 0; have hfz23_1 := blk_frozen BK308.out 1; have hfz23_2 := blk_frozen BK308.out 2; have hfz23_3 := blk_frozen BK308.out 3))
   go_ret
   exact ⟨pe, pw⟩
  rw [if_neg c14] at H
  have c14b0 : decide (a0_2 ≤ a1) = false := decide_eq_false c14
  clear c14
  obtain rfl := Option.some.inj H
  go_enter Tryd.func38, Tryd.ntmps38
  go_wp2_with (first | ((with_reducible refine gate_dst (N := 2) rfl ?_); refine box_event ?hg (N := 2) ?hd (cs := #[.bool false, .bool a0_1, .int .i64 a0_2, .int .i64 a0_3]) (t := 46) ?hr ?_; (case hd => rfl); (case hg => rfl); (case hr => first | (go_simp; done) | (go_simp; rfl)); intro gb308 hg w24 hbox hb; have n0_ := am (below_step pw hb); have n1_ := am (hbox); have n2_ := am ((by rw [hg]; exact (below_size pw) : w.heap.size ≤ gb308)); have n3_ := am ((by rw [hg]; exact (below_size pw) : w.heap.size ≤ gb308)); clear HB; have HB := n0_; have BK308 := n1_; have GW308 := n2_; have GE308 := n3_; clear n0_ n1_ n2_ n3_; clear hb hbox hg; have hcz25_0 : w24.cell? ⟨gb308, 0, none⟩ = some (.bool false) := bc BK308 0; have hcz25_1 : w24.cell? ⟨gb308, 1, none⟩ = some (.bool a0_1) := bc BK308 1; have hcz25_2 : w24.cell? ⟨gb308, 2, none⟩ = some (.int .i64 a0_2) := bc BK308 2; have hcz25_3 : w24.cell? ⟨gb308, 3, none⟩ = some (.int .i64 a0_3) := bc BK308 3; have hfz25_0 := blk_frozen BK308.out 0; have hfz25_1 := blk_frozen BK308.out 1; have hfz25_2 := blk_frozen BK308.out 2; have hfz25_3 := blk_frozen BK308.out 3) | ((with_reducible refine gate_callee (f := 90) rfl ?_); refine goesL_ (some 6) rfl rfl Tryd.func90 kk rfl #[.agg #[.bool false, .bool a0_1, .int .i64 a0_2, .int .i64 a0_3]] rfl (by (try simp only [List.map_toArray, List.map_cons, List.map_nil]); first | done | rfl | (simp only [List.length_drop, List.length_take]; rfl)) ?_; (with_reducible refine (interval_Valid.calls k false a0_1 a0_2 a0_3 none _ A3.out (am (ErrAt.below hE2.out pw)).out (am (ErrAt.below hE3.out pw)).out).mono ?_); rintro e w26 ⟨rfl, hb⟩; refine ⟨_, rfl, ?_⟩; have n0_ := bb BK308 hb; have n1_ := am (below_step pw hb); clear BK308; clear HB; have BK308 := n0_; have HB := n1_; clear n0_ n1_; (try clear hb); (try clear hb2); (try clear hk); (try clear hi); (try simp only [errW_none, errW_some]); have hcz27_0 : w26.cell? ⟨gb308, 0, none⟩ = some (.bool false) := bc BK308 0; have hcz27_1 : w26.cell? ⟨gb308, 1, none⟩ = some (.bool a0_1) := bc BK308 1; have hcz27_2 : w26.cell? ⟨gb308, 2, none⟩ = some (.int .i64 a0_2) := bc BK308 2; have hcz27_3 : w26.cell? ⟨gb308, 3, none⟩ = some (.int .i64 a0_3) := bc BK308 3; have hfz27_0 := blk_frozen BK308.out 0; have hfz27_1 := blk_frozen BK308.out 1; have hfz27_2 := blk_frozen BK308.out 2; have hfz27_3 := blk_frozen BK308.out 3))
  go_ret
  exact ⟨pe, pw⟩
 have H1 : (some false) = some r := by rw [if_neg (show ¬ (some q310).isNone = true by simp)] at H; exact H
 clear H
 have H := H1
 clear H1
 try simp only [errW_none, errW_some]
 obtain rfl := Option.some.inj H
 go_enter Tryd.func38, Tryd.ntmps38
 go_wp2_with (first | ((with_reducible refine gate_dst (N := 2) rfl ?_); refine box_event ?hg (N := 2) ?hd (cs := #[.bool a0_0, .bool a0_1, .int .i64 a0_2, .int .i64 a0_3]) (t := 46) ?hr ?_; (case hd => rfl); (case hg => rfl); (case hr => first | (go_simp; done) | (go_simp; rfl)); intro gb308 hg w28 hbox hb; have n0_ := am (below_step pw hb); have n1_ := am (hbox); have n2_ := am ((by rw [hg]; exact (below_size pw) : w.heap.size ≤ gb308)); have n3_ := am ((by rw [hg]; exact (below_size pw) : w.heap.size ≤ gb308)); clear HB; have HB := n0_; have BK308 := n1_; have GW308 := n2_; have GE308 := n3_; clear n0_ n1_ n2_ n3_; clear hb hbox hg; have hcz29_0 : w28.cell? ⟨gb308, 0, none⟩ = some (.bool a0_0) := bc BK308 0; have hcz29_1 : w28.cell? ⟨gb308, 1, none⟩ = some (.bool a0_1) := bc BK308 1; have hcz29_2 : w28.cell? ⟨gb308, 2, none⟩ = some (.int .i64 a0_2) := bc BK308 2; have hcz29_3 : w28.cell? ⟨gb308, 3, none⟩ = some (.int .i64 a0_3) := bc BK308 3; have hfz29_0 := blk_frozen BK308.out 0; have hfz29_1 := blk_frozen BK308.out 1; have hfz29_2 := blk_frozen BK308.out 2; have hfz29_3 := blk_frozen BK308.out 3) | ((with_reducible refine gate_callee (f := 90) rfl ?_); refine goesL_ (some 6) rfl rfl Tryd.func90 kk rfl #[.agg #[.bool a0_0, .bool a0_1, .int .i64 a0_2, .int .i64 a0_3]] rfl (by (try simp only [List.map_toArray, List.map_cons, List.map_nil]); first | done | rfl | (simp only [List.length_drop, List.length_take]; rfl)) ?_; (with_reducible refine (interval_Valid.calls k a0_0 a0_1 a0_2 a0_3 (some q310) _ A3.out (am (ErrAt.below hE2.out pw)).out (am (ErrAt.below hE3.out pw)).out).mono ?_); rintro e w30 ⟨rfl, hb⟩; refine ⟨_, rfl, ?_⟩; have n0_ := bb BK308 hb; have n1_ := am (below_step pw hb); clear BK308; clear HB; have BK308 := n0_; have HB := n1_; clear n0_ n1_; (try clear hb); (try clear hb2); (try clear hk); (try clear hi); (try simp only [errW_none, errW_some])))
 go_ret
 exact ⟨pe, pw⟩

-- NOT PRINTED: function 11 (L2_ZoneBox)

end Go.Proofs.YtjpboodkmhikpaaDoor.Z
