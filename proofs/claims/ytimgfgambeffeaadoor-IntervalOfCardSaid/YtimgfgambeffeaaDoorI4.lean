-- Written by wip/xprint.py (the session's program over the kit's print).
import Derived.Test.YtimgfgambeffeaaDoorEb
import Derived.Test.YtimgfgambeffeaaDoorCd
import Derived.Test.YtimgfgambeffeaaDoorI0
import Derived.Test.YtimgfgambeffeaaDoorI2
import Derived.Test.YtimgfgambeffeaaDoorI3
namespace Go.Proofs.YtimgfgambeffeaaDoor.I
open Go.RowKit Go.Proofs.YtimgfgambeffeaaDoorW.PrintWords Go.Proofs.YtimgfgambeffeaaDoorW.PrintLast Go.Proofs.YtimgfgambeffeaaDoorW.PrintMore Go.Proofs.Rcg
attribute [local go_sem] max2_int min2_int max_two min_two max_three min_three max_four min_four   -- for this text's walks alone
set_option linter.unusedVariables false
set_option linter.unusedSimpArgs false

/-! ### L2_IntervalOf: function 3 -/
def L2_IntervalOf.f (k : Nat) (a0_0 : Bool) (a0_1 : Bool) (a0_2 : Int) (a0_3 : Int) (a1 : Int) : Option (Bool) := (L2_three.f k).bind fun t133 => (if t133 = true then ((R2_IntervalError.f k a0_0 a0_1 a0_2 a0_3).bind fun t134 => ((interval_Valid.f k a0_0 a0_1 a0_2 a0_3).bind fun t135 => ((L2_coded.f t135 t134).bind fun t136 => (if t136 = true then ((interval_Has.f k a0_0 a0_1 a0_2 a0_3 a1).bind fun t137 => (if t134 = 0 then ((R2_InOf.f a0_0 a0_1 a0_2 a0_3 a1).bind fun t138 => (some (t137 == t138))) else (some (t137 == false)))) else (none))))) else (none))
theorem L2_IntervalOf.mono : ∀ a0 a1 a2 a3 a4 k, LeO (L2_IntervalOf.f k a0 a1 a2 a3 a4) (L2_IntervalOf.f (k + 1) a0 a1 a2 a3 a4) := by
 intro a0 a1 a2 a3 a4 k
 unfold L2_IntervalOf.f
 repeat' first
   | (with_reducible exact L2_three.mono _)
   | (with_reducible exact R2_IntervalError.mono _ _ _ _ _)
   | (with_reducible exact interval_Has.mono _ _ _ _ _ _)
   | (with_reducible exact interval_Valid.mono _ _ _ _ _)
   | (with_reducible exact LeO.refl _)
   | (with_reducible exact LeO.none _)
   | (with_reducible refine LeO.ite ?_ ?_)
   | (with_reducible refine LeO.bind ?_ (fun _ => ?_))
   | exact L2_three.mono _
   | exact R2_IntervalError.mono _ _ _ _ _
   | exact interval_Has.mono _ _ _ _ _ _
   | exact interval_Valid.mono _ _ _ _ _
   | exact LeO.none _
   | refine LeO.ite ?_ ?_
   | refine LeO.bind ?_ (fun _ => ?_)
set_option maxHeartbeats 8000000 in
set_option maxRecDepth 100000 in
theorem L2_IntervalOf.calls [EA] (k : Nat) (a0_0 : Bool) (a0_1 : Bool) (a0_2 : Int) (a0_3 : Int) (a1 : Int) (r : Bool) (w : World) (h : L2_IntervalOf.f k a0_0 a0_1 a0_2 a0_3 a1 = some r) (h2_ : ErrAt 2 1 w) (h3_ : ErrAt 3 0 w) (h9_ : ErrAll w) :
  Calls Tryd.prog 3 #[.agg #[.bool a0_0, .bool a0_1, .int .i64 a0_2, .int .i64 a0_3], .int .i64 a1] w fun e w' => e = .returned (.bool r) ∧ Below w.heap.size w w' := by
 have hE2 := am h2_
 clear h2_
 have hE3 := am h3_
 clear h3_
 have hE9 := am h9_
 clear h9_
 have hu23 := Tryd.underlying23
 have HB := am (Below.refl w.heap.size w)
 have H : ((L2_three.f k).bind fun t133 => (if t133 = true then ((R2_IntervalError.f k a0_0 a0_1 a0_2 a0_3).bind fun t134 => ((interval_Valid.f k a0_0 a0_1 a0_2 a0_3).bind fun t135 => ((L2_coded.f t135 t134).bind fun t136 => (if t136 = true then ((interval_Has.f k a0_0 a0_1 a0_2 a0_3 a1).bind fun t137 => (if t134 = 0 then ((R2_InOf.f a0_0 a0_1 a0_2 a0_3 a1).bind fun t138 => (some (t137 == t138))) else (some (t137 == false)))) else (none))))) else (none))) = some r := h
 clear h
 replace H := Option.bind_eq_some_iff.mp H
 obtain ⟨t133, A30, H⟩ := H
 replace H : (if t133 = true then ((R2_IntervalError.f k a0_0 a0_1 a0_2 a0_3).bind fun t134 => ((interval_Valid.f k a0_0 a0_1 a0_2 a0_3).bind fun t135 => ((L2_coded.f t135 t134).bind fun t136 => (if t136 = true then ((interval_Has.f k a0_0 a0_1 a0_2 a0_3 a1).bind fun t137 => (if t134 = 0 then ((R2_InOf.f a0_0 a0_1 a0_2 a0_3 a1).bind fun t138 => (some (t137 == t138))) else (some (t137 == false)))) else (none))))) else (none)) = some r := H
 have A3 := am A30
 clear A30
 by_cases c4 : t133 = true
 ·subst c4
  have H1 : ((R2_IntervalError.f k a0_0 a0_1 a0_2 a0_3).bind fun t134 => ((interval_Valid.f k a0_0 a0_1 a0_2 a0_3).bind fun t135 => ((L2_coded.f t135 t134).bind fun t136 => (if t136 = true then ((interval_Has.f k a0_0 a0_1 a0_2 a0_3 a1).bind fun t137 => (if t134 = 0 then ((R2_InOf.f a0_0 a0_1 a0_2 a0_3 a1).bind fun t138 => (some (t137 == t138))) else (some (t137 == false)))) else (none))))) = some r := by rw [if_pos rfl] at H; exact H
  clear H
  have H := H1
  clear H1
  replace H := Option.bind_eq_some_iff.mp H
  obtain ⟨t134, A50, H⟩ := H
  replace H : ((interval_Valid.f k a0_0 a0_1 a0_2 a0_3).bind fun t135 => ((L2_coded.f t135 t134).bind fun t136 => (if t136 = true then ((interval_Has.f k a0_0 a0_1 a0_2 a0_3 a1).bind fun t137 => (if t134 = 0 then ((R2_InOf.f a0_0 a0_1 a0_2 a0_3 a1).bind fun t138 => (some (t137 == t138))) else (some (t137 == false)))) else (none)))) = some r := H
  have A5 := am A50
  clear A50
  replace H := Option.bind_eq_some_iff.mp H
  obtain ⟨t135, A60, H⟩ := H
  replace H : ((L2_coded.f t135 t134).bind fun t136 => (if t136 = true then ((interval_Has.f k a0_0 a0_1 a0_2 a0_3 a1).bind fun t137 => (if t134 = 0 then ((R2_InOf.f a0_0 a0_1 a0_2 a0_3 a1).bind fun t138 => (some (t137 == t138))) else (some (t137 == false)))) else (none))) = some r := H
  have A6 := am A60
  clear A60
  replace H := Option.bind_eq_some_iff.mp H
  obtain ⟨t136, A70, H⟩ := H
  replace H : (if t136 = true then ((interval_Has.f k a0_0 a0_1 a0_2 a0_3 a1).bind fun t137 => (if t134 = 0 then ((R2_InOf.f a0_0 a0_1 a0_2 a0_3 a1).bind fun t138 => (some (t137 == t138))) else (some (t137 == false)))) else (none)) = some r := H
  have A7 := am A70
  clear A70
  by_cases c8 : t136 = true
  ·subst c8
   have H1 : ((interval_Has.f k a0_0 a0_1 a0_2 a0_3 a1).bind fun t137 => (if t134 = 0 then ((R2_InOf.f a0_0 a0_1 a0_2 a0_3 a1).bind fun t138 => (some (t137 == t138))) else (some (t137 == false)))) = some r := by rw [if_pos rfl] at H; exact H
   clear H
   have H := H1
   clear H1
   replace H := Option.bind_eq_some_iff.mp H
   obtain ⟨t137, A90, H⟩ := H
   replace H : (if t134 = 0 then ((R2_InOf.f a0_0 a0_1 a0_2 a0_3 a1).bind fun t138 => (some (t137 == t138))) else (some (t137 == false))) = some r := H
   have A9 := am A90
   clear A90
   by_cases c10 : t134 = 0
   ·rw [if_pos c10] at H
    have c10b0 : (t134 == 0) = true := beq_iff_eq.mpr c10
    have c10b1 : (t134 != 0) = false := bne_eq_false_iff_eq.mpr c10
    clear c10
    replace H := Option.bind_eq_some_iff.mp H
    obtain ⟨t138, A110, H⟩ := H
    replace H : (some (t137 == t138)) = some r := H
    have A11 := am A110
    clear A110
    obtain rfl := Option.some.inj H
    go_enter Tryd.func3, Tryd.ntmps3
    go_wp2_with (first | ((with_reducible refine gate_dst (N := 2) rfl ?_); refine box_event ?hg (N := 2) ?hd (cs := #[.bool a0_0, .bool a0_1, .int .i64 a0_2, .int .i64 a0_3]) (t := 23) ?hr ?_; (case hd => rfl); (case hg => rfl); (case hr => first | (go_simp; done) | (go_simp; rfl)); intro gb132 hg w12 hbox hb; have n0_ := am (below_step pw hb); have n1_ := am (hbox); have n2_ := am ((by rw [hg]; exact (below_size pw) : w.heap.size ≤ gb132)); have n3_ := am ((by rw [hg]; exact (below_size pw) : w.heap.size ≤ gb132)); clear HB; have HB := n0_; have BK132 := n1_; have GW132 := n2_; have GE132 := n3_; clear n0_ n1_ n2_ n3_; clear hb hbox hg) | ((with_reducible refine gate_callee (f := 12) rfl ?_); refine goesL_ (some 7) rfl rfl Tryd.func12 kk rfl #[] rfl (by (try simp only [List.map_toArray, List.map_cons, List.map_nil]); first | done | rfl | (simp only [List.length_drop, List.length_take]; rfl)) ?_; (with_reducible refine (L2_three.calls k  true _ A3.out (am (ErrAt.below hE2.out pw)).out (am (ErrAt.below hE3.out pw)).out).mono ?_); rintro e w13 ⟨rfl, hb⟩; refine ⟨_, rfl, ?_⟩; have n0_ := bb BK132 hb; have n1_ := am (below_step pw hb); clear BK132; clear HB; have BK132 := n0_; have HB := n1_; clear n0_ n1_; (try clear hb); (try clear hb2); (try clear hk); (try clear hi); have hcz14_0 : w13.cell? ⟨gb132, 0, none⟩ = some (.bool a0_0) := bc BK132 0; have hcz14_1 : w13.cell? ⟨gb132, 1, none⟩ = some (.bool a0_1) := bc BK132 1; have hcz14_2 : w13.cell? ⟨gb132, 2, none⟩ = some (.int .i64 a0_2) := bc BK132 2; have hcz14_3 : w13.cell? ⟨gb132, 3, none⟩ = some (.int .i64 a0_3) := bc BK132 3; have hfz14_0 := blk_frozen BK132.out 0; have hfz14_1 := blk_frozen BK132.out 1; have hfz14_2 := blk_frozen BK132.out 2; have hfz14_3 := blk_frozen BK132.out 3) | ((with_reducible refine gate_callee (f := 13) rfl ?_); refine goesL_ (some 11) rfl rfl Tryd.func13 kk rfl #[.agg #[.bool a0_0, .bool a0_1, .int .i64 a0_2, .int .i64 a0_3]] rfl (by (try simp only [List.map_toArray, List.map_cons, List.map_nil]); first | done | rfl | (simp only [List.length_drop, List.length_take]; rfl)) ?_; (with_reducible refine (R2_IntervalError.calls k a0_0 a0_1 a0_2 a0_3 t134 _ A5.out).mono ?_); rintro e w15 ⟨rfl, hb⟩; refine ⟨_, rfl, ?_⟩; have n0_ := bb BK132 hb; have n1_ := am (below_step pw hb); clear BK132; clear HB; have BK132 := n0_; have HB := n1_; clear n0_ n1_; (try clear hb); (try clear hb2); (try clear hk); (try clear hi); have hcz16_0 : w15.cell? ⟨gb132, 0, none⟩ = some (.bool a0_0) := bc BK132 0; have hcz16_1 : w15.cell? ⟨gb132, 1, none⟩ = some (.bool a0_1) := bc BK132 1; have hcz16_2 : w15.cell? ⟨gb132, 2, none⟩ = some (.int .i64 a0_2) := bc BK132 2; have hcz16_3 : w15.cell? ⟨gb132, 3, none⟩ = some (.int .i64 a0_3) := bc BK132 3; have hfz16_0 := blk_frozen BK132.out 0; have hfz16_1 := blk_frozen BK132.out 1; have hfz16_2 := blk_frozen BK132.out 2; have hfz16_3 := blk_frozen BK132.out 3) | ((with_reducible refine gate_callee (f := 15) rfl ?_); refine goesL_ (some 13) rfl rfl Tryd.func15 kk rfl #[.agg #[.bool a0_0, .bool a0_1, .int .i64 a0_2, .int .i64 a0_3]] rfl (by (try simp only [List.map_toArray, List.map_cons, List.map_nil]); first | done | rfl | (simp only [List.length_drop, List.length_take]; rfl)) ?_; (with_reducible refine (interval_Valid.calls k a0_0 a0_1 a0_2 a0_3 t135 _ A6.out (am (ErrAt.below hE2.out pw)).out (am (ErrAt.below hE3.out pw)).out).mono ?_); rintro e w17 ⟨rfl, hb⟩; refine ⟨_, rfl, ?_⟩; have n0_ := bb BK132 hb; have n1_ := am (below_step pw hb); clear BK132; clear HB; have BK132 := n0_; have HB := n1_; clear n0_ n1_; (try clear hb); (try clear hb2); (try clear hk); (try clear hi); (try simp only [errW_none, errW_some]); have CA7 := fun (W : World) (hE9_ : ErrAll W) => L2_coded.calls t135 t134 true W A7.out hE9_; try simp only [errW_none, errW_some] at CA7) | (go_at_call 14; (with_reducible refine (CA7 _ (ErrAll.below hE9.out pw)).mono ?_); rintro e w18 ⟨rfl, hb⟩; have n0_ := bb BK132 hb; have n1_ := am (below_step pw hb); clear BK132; clear HB; have BK132 := n0_; have HB := n1_; clear n0_ n1_; (try clear hb); (try clear hb2); (try clear hk); (try clear hi); have hcz19_0 : w18.cell? ⟨gb132, 0, none⟩ = some (.bool a0_0) := bc BK132 0; have hcz19_1 : w18.cell? ⟨gb132, 1, none⟩ = some (.bool a0_1) := bc BK132 1; have hcz19_2 : w18.cell? ⟨gb132, 2, none⟩ = some (.int .i64 a0_2) := bc BK132 2; have hcz19_3 : w18.cell? ⟨gb132, 3, none⟩ = some (.int .i64 a0_3) := bc BK132 3; have hfz19_0 := blk_frozen BK132.out 0; have hfz19_1 := blk_frozen BK132.out 1; have hfz19_2 := blk_frozen BK132.out 2; have hfz19_3 := blk_frozen BK132.out 3) | (go_at_call 16; (with_reducible refine (interval_Has.calls k a0_0 a0_1 a0_2 a0_3 a1 t137 _ A9.out (am (ErrAt.below hE2.out pw)).out (am (ErrAt.below hE3.out pw)).out).mono ?_); rintro e w20 ⟨rfl, hb⟩; have n0_ := bb BK132 hb; have n1_ := am (below_step pw hb); clear BK132; clear HB; have BK132 := n0_; have HB := n1_; clear n0_ n1_; (try clear hb); (try clear hb2); (try clear hk); (try clear hi); have hcz21_0 : w20.cell? ⟨gb132, 0, none⟩ = some (.bool a0_0) := bc BK132 0; have hcz21_1 : w20.cell? ⟨gb132, 1, none⟩ = some (.bool a0_1) := bc BK132 1; have hcz21_2 : w20.cell? ⟨gb132, 2, none⟩ = some (.int .i64 a0_2) := bc BK132 2; have hcz21_3 : w20.cell? ⟨gb132, 3, none⟩ = some (.int .i64 a0_3) := bc BK132 3; have hfz21_0 := blk_frozen BK132.out 0; have hfz21_1 := blk_frozen BK132.out 1; have hfz21_2 := blk_frozen BK132.out 2; have hfz21_3 := blk_frozen BK132.out 3) | (go_at_call 17; (with_reducible refine (R2_InOf.calls a0_0 a0_1 a0_2 a0_3 a1 t138 _ A11.out).mono ?_); rintro e w22 ⟨rfl, hb⟩; have n0_ := bb BK132 hb; have n1_ := am (below_step pw hb); clear BK132; clear HB; have BK132 := n0_; have HB := n1_; clear n0_ n1_; (try clear hb); (try clear hb2); (try clear hk); (try clear hi)))
    go_ret
    exact ⟨pe, pw⟩
   rw [if_neg c10] at H
   have c10b0 : (t134 == 0) = false := beq_eq_false_iff_ne.mpr c10
   have c10b1 : (t134 != 0) = true := bne_iff_ne.mpr c10
   obtain rfl := Option.some.inj H
   go_enter Tryd.func3, Tryd.ntmps3
   go_wp2_with (first | ((with_reducible refine gate_dst (N := 2) rfl ?_); refine box_event ?hg (N := 2) ?hd (cs := #[.bool a0_0, .bool a0_1, .int .i64 a0_2, .int .i64 a0_3]) (t := 23) ?hr ?_; (case hd => rfl); (case hg => rfl); (case hr => first | (go_simp; done) | (go_simp; rfl)); intro gb132 hg w23 hbox hb; have n0_ := am (below_step pw hb); have n1_ := am (hbox); have n2_ := am ((by rw [hg]; exact (below_size pw) : w.heap.size ≤ gb132)); have n3_ := am ((by rw [hg]; exact (below_size pw) : w.heap.size ≤ gb132)); clear HB; have HB := n0_; have BK132 := n1_; have GW132 := n2_; have GE132 := n3_; clear n0_ n1_ n2_ n3_; clear hb hbox hg) | ((with_reducible refine gate_callee (f := 12) rfl ?_); refine goesL_ (some 7) rfl rfl Tryd.func12 kk rfl #[] rfl (by (try simp only [List.map_toArray, List.map_cons, List.map_nil]); first | done | rfl | (simp only [List.length_drop, List.length_take]; rfl)) ?_; (with_reducible refine (L2_three.calls k  true _ A3.out (am (ErrAt.below hE2.out pw)).out (am (ErrAt.below hE3.out pw)).out).mono ?_); rintro e w24 ⟨rfl, hb⟩; refine ⟨_, rfl, ?_⟩; have n0_ := bb BK132 hb; have n1_ := am (below_step pw hb); clear BK132; clear HB; have BK132 := n0_; have HB := n1_; clear n0_ n1_; (try clear hb); (try clear hb2); (try clear hk); (try clear hi); have hcz25_0 : w24.cell? ⟨gb132, 0, none⟩ = some (.bool a0_0) := bc BK132 0; have hcz25_1 : w24.cell? ⟨gb132, 1, none⟩ = some (.bool a0_1) := bc BK132 1; have hcz25_2 : w24.cell? ⟨gb132, 2, none⟩ = some (.int .i64 a0_2) := bc BK132 2; have hcz25_3 : w24.cell? ⟨gb132, 3, none⟩ = some (.int .i64 a0_3) := bc BK132 3; have hfz25_0 := blk_frozen BK132.out 0; have hfz25_1 := blk_frozen BK132.out 1; have hfz25_2 := blk_frozen BK132.out 2; have hfz25_3 := blk_frozen BK132.out 3) | ((with_reducible refine gate_callee (f := 13) rfl ?_); refine goesL_ (some 11) rfl rfl Tryd.func13 kk rfl #[.agg #[.bool a0_0, .bool a0_1, .int .i64 a0_2, .int .i64 a0_3]] rfl (by (try simp only [List.map_toArray, List.map_cons, List.map_nil]); first | done | rfl | (simp only [List.length_drop, List.length_take]; rfl)) ?_; (with_reducible refine (R2_IntervalError.calls k a0_0 a0_1 a0_2 a0_3 t134 _ A5.out).mono ?_); rintro e w26 ⟨rfl, hb⟩; refine ⟨_, rfl, ?_⟩; have n0_ := bb BK132 hb; have n1_ := am (below_step pw hb); clear BK132; clear HB; have BK132 := n0_; have HB := n1_; clear n0_ n1_; (try clear hb); (try clear hb2); (try clear hk); (try clear hi); have hcz27_0 : w26.cell? ⟨gb132, 0, none⟩ = some (.bool a0_0) := bc BK132 0; have hcz27_1 : w26.cell? ⟨gb132, 1, none⟩ = some (.bool a0_1) := bc BK132 1; have hcz27_2 : w26.cell? ⟨gb132, 2, none⟩ = some (.int .i64 a0_2) := bc BK132 2; have hcz27_3 : w26.cell? ⟨gb132, 3, none⟩ = some (.int .i64 a0_3) := bc BK132 3; have hfz27_0 := blk_frozen BK132.out 0; have hfz27_1 := blk_frozen BK132.out 1; have hfz27_2 := blk_frozen BK132.out 2; have hfz27_3 := blk_frozen BK132.out 3) | ((with_reducible refine gate_callee (f := 15) rfl ?_); refine goesL_ (some 13) rfl rfl Tryd.func15 kk rfl #[.agg #[.bool a0_0, .bool a0_1, .int .i64 a0_2, .int .i64 a0_3]] rfl (by (try simp only [List.map_toArray, List.map_cons, List.map_nil]); first | done | rfl | (simp only [List.length_drop, List.length_take]; rfl)) ?_; (with_reducible refine (interval_Valid.calls k a0_0 a0_1 a0_2 a0_3 t135 _ A6.out (am (ErrAt.below hE2.out pw)).out (am (ErrAt.below hE3.out pw)).out).mono ?_); rintro e w28 ⟨rfl, hb⟩; refine ⟨_, rfl, ?_⟩; have n0_ := bb BK132 hb; have n1_ := am (below_step pw hb); clear BK132; clear HB; have BK132 := n0_; have HB := n1_; clear n0_ n1_; (try clear hb); (try clear hb2); (try clear hk); (try clear hi); (try simp only [errW_none, errW_some]); have CA7 := fun (W : World) (hE9_ : ErrAll W) => L2_coded.calls t135 t134 true W A7.out hE9_; try simp only [errW_none, errW_some] at CA7) | (go_at_call 14; (with_reducible refine (CA7 _ (ErrAll.below hE9.out pw)).mono ?_); rintro e w29 ⟨rfl, hb⟩; have n0_ := bb BK132 hb; have n1_ := am (below_step pw hb); clear BK132; clear HB; have BK132 := n0_; have HB := n1_; clear n0_ n1_; (try clear hb); (try clear hb2); (try clear hk); (try clear hi); have hcz30_0 : w29.cell? ⟨gb132, 0, none⟩ = some (.bool a0_0) := bc BK132 0; have hcz30_1 : w29.cell? ⟨gb132, 1, none⟩ = some (.bool a0_1) := bc BK132 1; have hcz30_2 : w29.cell? ⟨gb132, 2, none⟩ = some (.int .i64 a0_2) := bc BK132 2; have hcz30_3 : w29.cell? ⟨gb132, 3, none⟩ = some (.int .i64 a0_3) := bc BK132 3; have hfz30_0 := blk_frozen BK132.out 0; have hfz30_1 := blk_frozen BK132.out 1; have hfz30_2 := blk_frozen BK132.out 2; have hfz30_3 := blk_frozen BK132.out 3) | (go_at_call 16; (with_reducible refine (interval_Has.calls k a0_0 a0_1 a0_2 a0_3 a1 t137 _ A9.out (am (ErrAt.below hE2.out pw)).out (am (ErrAt.below hE3.out pw)).out).mono ?_); rintro e w31 ⟨rfl, hb⟩; have n0_ := bb BK132 hb; have n1_ := am (below_step pw hb); clear BK132; clear HB; have BK132 := n0_; have HB := n1_; clear n0_ n1_; (try clear hb); (try clear hb2); (try clear hk); (try clear hi)))
   go_ret
   exact ⟨pe, pw⟩
  replace c8 := Bool.eq_false_iff.mpr c8
  subst c8
  have H1 : (none) = some r := by rw [if_neg (show ¬ (false = true) by decide)] at H; exact H
  clear H
  have H := H1
  clear H1
  exact absurd H (by simp)
 replace c4 := Bool.eq_false_iff.mpr c4
 subst c4
 have H1 : (none) = some r := by rw [if_neg (show ¬ (false = true) by decide)] at H; exact H
 clear H
 have H := H1
 clear H1
 exact absurd H (by simp)

end Go.Proofs.YtimgfgambeffeaaDoor.I
