import Derived.Test.YtcalcnfppnbooaaDoorIrEb
import Derived.Test.YtcalcnfppnbooaaDoorIrCd
import Derived.Test.YtcalcnfppnbooaaDoorIrR0
import Derived.Test.YtcalcnfppnbooaaDoorIrR1
import Derived.Test.YtcalcnfppnbooaaDoorIrR2
-- Written by wip/xprint.py (the session's program over the kit's print).
namespace Go.Proofs.YtcalcnfppnbooaaDoor.R
open Go.RowKit Go.Proofs.YtcalcnfppnbooaaDoorW.PrintWords Go.Proofs.YtcalcnfppnbooaaDoorW.PrintLast Go.Proofs.YtcalcnfppnbooaaDoorW.PrintMore Go.Proofs.Rcg
attribute [local go_sem] max2_int min2_int max_two min_two max_three min_three max_four min_four   -- for this text's walks alone
set_option linter.unusedVariables false
set_option linter.unusedSimpArgs false

attribute [local go_sem high] eqA49
/-! ### L2_isSpan: function 31 -/
def L2_isSpan.f (a0_0 : Bool) (a0_1 : Bool) (a0_2 : Int) (a0_3 : Int) (a1 : Option Int) (a2_0 : Bool) (a2_1 : Bool) (a2_2 : Int) (a2_3 : Int) (a3 : Int) : Option (Bool) := if a3 > 0 then ((L2_coded.f a1 a3).bind fun t210 => (if t210 = true then (some (!a0_0 && (!a0_1 && (a0_2 == 0 && (a0_3 == 0))))) else (some false))) else (if a1.isNone = true then (some (a0_0 == a2_0 && (a0_1 == a2_1 && (a0_2 == a2_2 && (a0_3 == a2_3))))) else (some false))
set_option maxHeartbeats 8000000 in
set_option maxRecDepth 100000 in
theorem L2_isSpan.calls [EA] (a0_0 : Bool) (a0_1 : Bool) (a0_2 : Int) (a0_3 : Int) (a1 : Option Int) (a2_0 : Bool) (a2_1 : Bool) (a2_2 : Int) (a2_3 : Int) (a3 : Int) (r : Bool) (w : World) (h : L2_isSpan.f a0_0 a0_1 a0_2 a0_3 a1 a2_0 a2_1 a2_2 a2_3 a3 = some r) (h9_ : ErrAll w) :
  Calls Tryd.prog 31 #[.agg #[.bool a0_0, .bool a0_1, .int .i64 a0_2, .int .i64 a0_3], errW a1, .agg #[.bool a2_0, .bool a2_1, .int .i64 a2_2, .int .i64 a2_3], .int .i64 a3] w fun e w' => e = .returned (.bool r) ∧ Below w.heap.size w w' := by
 have hE9 := am h9_
 clear h9_
 have hu49 := Tryd.underlying49
 have hu32 := Tryd.underlying32
 have HB := am (Below.refl w.heap.size w)
 have H : (if a3 > 0 then ((L2_coded.f a1 a3).bind fun t210 => (if t210 = true then (some (!a0_0 && (!a0_1 && (a0_2 == 0 && (a0_3 == 0))))) else (some false))) else (if a1.isNone = true then (some (a0_0 == a2_0 && (a0_1 == a2_1 && (a0_2 == a2_2 && (a0_3 == a2_3))))) else (some false))) = some r := h
 clear h
 by_cases c5 : a3 > 0
 ·rw [if_pos c5] at H
  have c5b0 : decide (0 < a3) = true := decide_eq_true c5
  clear c5
  replace H := Option.bind_eq_some_iff.mp H
  obtain ⟨t210, A60, H⟩ := H
  replace H : (if t210 = true then (some (!a0_0 && (!a0_1 && (a0_2 == 0 && (a0_3 == 0))))) else (some false)) = some r := H
  have A6 := am A60
  clear A60
  by_cases c7 : t210 = true
  ·subst c7
   have H1 : (some (!a0_0 && (!a0_1 && (a0_2 == 0 && (a0_3 == 0))))) = some r := by rw [if_pos rfl] at H; exact H
   clear H
   have H := H1
   clear H1
   obtain rfl := Option.some.inj H
   go_enter Tryd.func31, Tryd.ntmps31
   go_wp2_with (first | ((with_reducible refine gate_dst (N := 4) rfl ?_); refine box_event ?hg (N := 4) ?hd (cs := #[.bool a0_0, .bool a0_1, .int .i64 a0_2, .int .i64 a0_3]) (t := 49) ?hr ?_; (case hd => rfl); (case hg => rfl); (case hr => first | (go_simp; done) | (go_simp; rfl)); intro gb208 hg w8 hbox hb; have n0_ := am (below_step pw hb); have n1_ := am (hbox); have n2_ := am ((by rw [hg]; exact (below_size pw) : w.heap.size ≤ gb208)); have n3_ := am ((by rw [hg]; exact (below_size pw) : w.heap.size ≤ gb208)); clear HB; have HB := n0_; have BK208 := n1_; have GW208 := n2_; have GE208 := n3_; clear n0_ n1_ n2_ n3_; clear hb hbox hg) | ((with_reducible refine gate_dst (N := 6) rfl ?_); refine box_event ?hg (N := 6) ?hd (cs := #[.bool a2_0, .bool a2_1, .int .i64 a2_2, .int .i64 a2_3]) (t := 49) ?hr ?_; (case hd => rfl); (case hg => rfl); (case hr => first | (go_simp; done) | (go_simp; rfl)); intro gb209 hg w9 hbox hb; have n0_ := bb BK208 hb; have n1_ := am (below_step pw hb); have n2_ := am (hbox); have n3_ := am ((by rw [hg]; exact (below_size pw) : w.heap.size ≤ gb209)); have n4_ := am ((by rw [hg]; exact (below_size pw) : w.heap.size ≤ gb209)); have n5_ := am ((by rw [hg]; exact Nat.ne_of_lt (blk_lt pk) : gb208 ≠ gb209)); have n6_ := am ((by rw [hg]; exact Nat.ne_of_gt (blk_lt pk) : gb209 ≠ gb208)); clear BK208; clear HB; have BK208 := n0_; have HB := n1_; have BK209 := n2_; have GW209 := n3_; have GE209 := n4_; have NB208_209 := n5_; have NB209_208 := n6_; clear n0_ n1_ n2_ n3_ n4_ n5_ n6_; clear hb hbox hg; have CA6 := fun (W : World) (hE9_ : ErrAll W) => L2_coded.calls a1 a3 true W A6.out hE9_; try simp only [errW_none, errW_some] at CA6) | (go_at_call 20; (with_reducible refine (CA6 _ (ErrAll.below hE9.out pw)).mono ?_); rintro e w10 ⟨rfl, hb⟩; have n0_ := bb BK208 hb; have n1_ := bb BK209 hb; have n2_ := am (below_step pw hb); clear BK208; clear BK209; clear HB; have BK208 := n0_; have BK209 := n1_; have HB := n2_; clear n0_ n1_ n2_; (try clear hb); (try clear hb2); (try clear hk); (try clear hi); have hnb11 := NB208_209.out; have hnc11 := NB209_208.out; have hcz12_0 : w10.cell? ⟨gb208, 0, none⟩ = some (.bool a0_0) := bc BK208 0; have hcz12_1 : w10.cell? ⟨gb208, 1, none⟩ = some (.bool a0_1) := bc BK208 1; have hcz12_2 : w10.cell? ⟨gb208, 2, none⟩ = some (.int .i64 a0_2) := bc BK208 2; have hcz12_3 : w10.cell? ⟨gb208, 3, none⟩ = some (.int .i64 a0_3) := bc BK208 3; have hfz12_0 := blk_frozen BK208.out 0; have hfz12_1 := blk_frozen BK208.out 1; have hfz12_2 := blk_frozen BK208.out 2; have hfz12_3 := blk_frozen BK208.out 3))
   go_ret
   exact ⟨pe, pw⟩
  replace c7 := Bool.eq_false_iff.mpr c7
  subst c7
  have H1 : (some false) = some r := by rw [if_neg (show ¬ (false = true) by decide)] at H; exact H
  clear H
  have H := H1
  clear H1
  obtain rfl := Option.some.inj H
  go_enter Tryd.func31, Tryd.ntmps31
  go_wp2_with (first | ((with_reducible refine gate_dst (N := 4) rfl ?_); refine box_event ?hg (N := 4) ?hd (cs := #[.bool a0_0, .bool a0_1, .int .i64 a0_2, .int .i64 a0_3]) (t := 49) ?hr ?_; (case hd => rfl); (case hg => rfl); (case hr => first | (go_simp; done) | (go_simp; rfl)); intro gb208 hg w13 hbox hb; have n0_ := am (below_step pw hb); have n1_ := am (hbox); have n2_ := am ((by rw [hg]; exact (below_size pw) : w.heap.size ≤ gb208)); have n3_ := am ((by rw [hg]; exact (below_size pw) : w.heap.size ≤ gb208)); clear HB; have HB := n0_; have BK208 := n1_; have GW208 := n2_; have GE208 := n3_; clear n0_ n1_ n2_ n3_; clear hb hbox hg) | ((with_reducible refine gate_dst (N := 6) rfl ?_); refine box_event ?hg (N := 6) ?hd (cs := #[.bool a2_0, .bool a2_1, .int .i64 a2_2, .int .i64 a2_3]) (t := 49) ?hr ?_; (case hd => rfl); (case hg => rfl); (case hr => first | (go_simp; done) | (go_simp; rfl)); intro gb209 hg w14 hbox hb; have n0_ := bb BK208 hb; have n1_ := am (below_step pw hb); have n2_ := am (hbox); have n3_ := am ((by rw [hg]; exact (below_size pw) : w.heap.size ≤ gb209)); have n4_ := am ((by rw [hg]; exact (below_size pw) : w.heap.size ≤ gb209)); have n5_ := am ((by rw [hg]; exact Nat.ne_of_lt (blk_lt pk) : gb208 ≠ gb209)); have n6_ := am ((by rw [hg]; exact Nat.ne_of_gt (blk_lt pk) : gb209 ≠ gb208)); clear BK208; clear HB; have BK208 := n0_; have HB := n1_; have BK209 := n2_; have GW209 := n3_; have GE209 := n4_; have NB208_209 := n5_; have NB209_208 := n6_; clear n0_ n1_ n2_ n3_ n4_ n5_ n6_; clear hb hbox hg; have CA6 := fun (W : World) (hE9_ : ErrAll W) => L2_coded.calls a1 a3 false W A6.out hE9_; try simp only [errW_none, errW_some] at CA6) | (go_at_call 20; (with_reducible refine (CA6 _ (ErrAll.below hE9.out pw)).mono ?_); rintro e w15 ⟨rfl, hb⟩; have n0_ := bb BK208 hb; have n1_ := bb BK209 hb; have n2_ := am (below_step pw hb); clear BK208; clear BK209; clear HB; have BK208 := n0_; have BK209 := n1_; have HB := n2_; clear n0_ n1_ n2_; (try clear hb); (try clear hb2); (try clear hk); (try clear hi)))
  go_ret
  exact ⟨pe, pw⟩
 rw [if_neg c5] at H
 have c5b0 : decide (0 < a3) = false := decide_eq_false c5
 clear c5
 rcases a1 with _ | q211
 ·have H1 : (some (a0_0 == a2_0 && (a0_1 == a2_1 && (a0_2 == a2_2 && (a0_3 == a2_3))))) = some r := by rw [if_pos (show (none : Option Int).isNone = true by rfl)] at H; exact H
  clear H
  have H := H1
  clear H1
  simp only [errW_none, errW_some]
  obtain rfl := Option.some.inj H
  go_enter Tryd.func31, Tryd.ntmps31
  go_wp2_with (first | ((with_reducible refine gate_dst (N := 4) rfl ?_); refine box_event ?hg (N := 4) ?hd (cs := #[.bool a0_0, .bool a0_1, .int .i64 a0_2, .int .i64 a0_3]) (t := 49) ?hr ?_; (case hd => rfl); (case hg => rfl); (case hr => first | (go_simp; done) | (go_simp; rfl)); intro gb208 hg w16 hbox hb; have n0_ := am (below_step pw hb); have n1_ := am (hbox); have n2_ := am ((by rw [hg]; exact (below_size pw) : w.heap.size ≤ gb208)); have n3_ := am ((by rw [hg]; exact (below_size pw) : w.heap.size ≤ gb208)); clear HB; have HB := n0_; have BK208 := n1_; have GW208 := n2_; have GE208 := n3_; clear n0_ n1_ n2_ n3_; clear hb hbox hg) | ((with_reducible refine gate_dst (N := 6) rfl ?_); refine box_event ?hg (N := 6) ?hd (cs := #[.bool a2_0, .bool a2_1, .int .i64 a2_2, .int .i64 a2_3]) (t := 49) ?hr ?_; (case hd => rfl); (case hg => rfl); (case hr => first | (go_simp; done) | (go_simp; rfl)); intro gb209 hg w17 hbox hb; have n0_ := bb BK208 hb; have n1_ := am (below_step pw hb); have n2_ := am (hbox); have n3_ := am ((by rw [hg]; exact (below_size pw) : w.heap.size ≤ gb209)); have n4_ := am ((by rw [hg]; exact (below_size pw) : w.heap.size ≤ gb209)); have n5_ := am ((by rw [hg]; exact Nat.ne_of_lt (blk_lt pk) : gb208 ≠ gb209)); have n6_ := am ((by rw [hg]; exact Nat.ne_of_gt (blk_lt pk) : gb209 ≠ gb208)); clear BK208; clear HB; have BK208 := n0_; have HB := n1_; have BK209 := n2_; have GW209 := n3_; have GE209 := n4_; have NB208_209 := n5_; have NB209_208 := n6_; clear n0_ n1_ n2_ n3_ n4_ n5_ n6_; clear hb hbox hg; have hnb18 := NB208_209.out; have hnc18 := NB209_208.out; have hcz19_0 : w17.cell? ⟨gb208, 0, none⟩ = some (.bool a0_0) := bc BK208 0; have hcz19_1 : w17.cell? ⟨gb208, 1, none⟩ = some (.bool a0_1) := bc BK208 1; have hcz19_2 : w17.cell? ⟨gb208, 2, none⟩ = some (.int .i64 a0_2) := bc BK208 2; have hcz19_3 : w17.cell? ⟨gb208, 3, none⟩ = some (.int .i64 a0_3) := bc BK208 3; have hfz19_0 := blk_frozen BK208.out 0; have hfz19_1 := blk_frozen BK208.out 1; have hfz19_2 := blk_frozen BK208.out 2; have hfz19_3 := blk_frozen BK208.out 3; have hcz20_0 : w17.cell? ⟨gb209, 0, none⟩ = some (.bool a2_0) := bc BK209 0; have hcz20_1 : w17.cell? ⟨gb209, 1, none⟩ = some (.bool a2_1) := bc BK209 1; have hcz20_2 : w17.cell? ⟨gb209, 2, none⟩ = some (.int .i64 a2_2) := bc BK209 2; have hcz20_3 : w17.cell? ⟨gb209, 3, none⟩ = some (.int .i64 a2_3) := bc BK209 3; have hfz20_0 := blk_frozen BK209.out 0; have hfz20_1 := blk_frozen BK209.out 1; have hfz20_2 := blk_frozen BK209.out 2; have hfz20_3 := blk_frozen BK209.out 3))
  go_ret
  exact ⟨pe, pw⟩
 have H1 : (some false) = some r := by rw [if_neg (show ¬ (some q211).isNone = true by simp)] at H; exact H
 clear H
 have H := H1
 clear H1
 simp only [errW_none, errW_some]
 obtain rfl := Option.some.inj H
 go_enter Tryd.func31, Tryd.ntmps31
 go_wp2_with (first | ((with_reducible refine gate_dst (N := 4) rfl ?_); refine box_event ?hg (N := 4) ?hd (cs := #[.bool a0_0, .bool a0_1, .int .i64 a0_2, .int .i64 a0_3]) (t := 49) ?hr ?_; (case hd => rfl); (case hg => rfl); (case hr => first | (go_simp; done) | (go_simp; rfl)); intro gb208 hg w21 hbox hb; have n0_ := am (below_step pw hb); have n1_ := am (hbox); have n2_ := am ((by rw [hg]; exact (below_size pw) : w.heap.size ≤ gb208)); have n3_ := am ((by rw [hg]; exact (below_size pw) : w.heap.size ≤ gb208)); clear HB; have HB := n0_; have BK208 := n1_; have GW208 := n2_; have GE208 := n3_; clear n0_ n1_ n2_ n3_; clear hb hbox hg) | ((with_reducible refine gate_dst (N := 6) rfl ?_); refine box_event ?hg (N := 6) ?hd (cs := #[.bool a2_0, .bool a2_1, .int .i64 a2_2, .int .i64 a2_3]) (t := 49) ?hr ?_; (case hd => rfl); (case hg => rfl); (case hr => first | (go_simp; done) | (go_simp; rfl)); intro gb209 hg w22 hbox hb; have n0_ := bb BK208 hb; have n1_ := am (below_step pw hb); have n2_ := am (hbox); have n3_ := am ((by rw [hg]; exact (below_size pw) : w.heap.size ≤ gb209)); have n4_ := am ((by rw [hg]; exact (below_size pw) : w.heap.size ≤ gb209)); have n5_ := am ((by rw [hg]; exact Nat.ne_of_lt (blk_lt pk) : gb208 ≠ gb209)); have n6_ := am ((by rw [hg]; exact Nat.ne_of_gt (blk_lt pk) : gb209 ≠ gb208)); clear BK208; clear HB; have BK208 := n0_; have HB := n1_; have BK209 := n2_; have GW209 := n3_; have GE209 := n4_; have NB208_209 := n5_; have NB209_208 := n6_; clear n0_ n1_ n2_ n3_ n4_ n5_ n6_; clear hb hbox hg))
 go_ret
 exact ⟨pe, pw⟩

/-! ### R2_Small: function 32 -/
def R2_Small.f (a0_0 : Bool) (a0_1 : Bool) (a0_2 : Int) (a0_3 : Int) (a1 : Int) : Option (Bool) := (R2_Far.f a0_2 a1).bind fun t213 => ((R2_Far.f a0_3 a1).bind fun t214 => (if a0_0 = true then (some false) else (if a0_1 = true then (some false) else (if t213 = true then (some false) else (some (!t214))))))
set_option maxHeartbeats 8000000 in
set_option maxRecDepth 100000 in
theorem R2_Small.calls [EA] (a0_0 : Bool) (a0_1 : Bool) (a0_2 : Int) (a0_3 : Int) (a1 : Int) (r : Bool) (w : World) (h : R2_Small.f a0_0 a0_1 a0_2 a0_3 a1 = some r) :
  Calls Tryd.prog 32 #[.agg #[.bool a0_0, .bool a0_1, .int .i64 a0_2, .int .i64 a0_3], .int .i64 a1] w fun e w' => e = .returned (.bool r) ∧ Below w.heap.size w w' := by
 have hu49 := Tryd.underlying49
 have HB := am (Below.refl w.heap.size w)
 have H : ((R2_Far.f a0_2 a1).bind fun t213 => ((R2_Far.f a0_3 a1).bind fun t214 => (if a0_0 = true then (some false) else (if a0_1 = true then (some false) else (if t213 = true then (some false) else (some (!t214))))))) = some r := h
 clear h
 replace H := Option.bind_eq_some_iff.mp H
 obtain ⟨t213, A30, H⟩ := H
 replace H : ((R2_Far.f a0_3 a1).bind fun t214 => (if a0_0 = true then (some false) else (if a0_1 = true then (some false) else (if t213 = true then (some false) else (some (!t214)))))) = some r := H
 have A3 := am A30
 clear A30
 replace H := Option.bind_eq_some_iff.mp H
 obtain ⟨t214, A40, H⟩ := H
 replace H : (if a0_0 = true then (some false) else (if a0_1 = true then (some false) else (if t213 = true then (some false) else (some (!t214))))) = some r := H
 have A4 := am A40
 clear A40
 by_cases c5 : a0_0 = true
 ·subst c5
  have H1 : (some false) = some r := by rw [if_pos rfl] at H; exact H
  clear H
  have H := H1
  clear H1
  obtain rfl := Option.some.inj H
  go_enter Tryd.func32, Tryd.ntmps32
  go_wp2_with (first | ((with_reducible refine gate_dst (N := 2) rfl ?_); refine box_event ?hg (N := 2) ?hd (cs := #[.bool true, .bool a0_1, .int .i64 a0_2, .int .i64 a0_3]) (t := 49) ?hr ?_; (case hd => rfl); (case hg => rfl); (case hr => first | (go_simp; done) | (go_simp; rfl)); intro gb212 hg w6 hbox hb; have n0_ := am (below_step pw hb); have n1_ := am (hbox); have n2_ := am ((by rw [hg]; exact (below_size pw) : w.heap.size ≤ gb212)); have n3_ := am ((by rw [hg]; exact (below_size pw) : w.heap.size ≤ gb212)); clear HB; have HB := n0_; have BK212 := n1_; have GW212 := n2_; have GE212 := n3_; clear n0_ n1_ n2_ n3_; clear hb hbox hg; have hcz7_0 : w6.cell? ⟨gb212, 0, none⟩ = some (.bool true) := bc BK212 0; have hcz7_1 : w6.cell? ⟨gb212, 1, none⟩ = some (.bool a0_1) := bc BK212 1; have hcz7_2 : w6.cell? ⟨gb212, 2, none⟩ = some (.int .i64 a0_2) := bc BK212 2; have hcz7_3 : w6.cell? ⟨gb212, 3, none⟩ = some (.int .i64 a0_3) := bc BK212 3; have hfz7_0 := blk_frozen BK212.out 0; have hfz7_1 := blk_frozen BK212.out 1; have hfz7_2 := blk_frozen BK212.out 2; have hfz7_3 := blk_frozen BK212.out 3) | ((with_reducible refine gate_callee (f := 22) rfl ?_); refine goesL_ (some 10) rfl rfl Tryd.func22 kk rfl #[.int .i64 a0_2, .int .i64 a1] rfl (by (try simp only [List.map_toArray, List.map_cons, List.map_nil]); first | done | rfl | (simp only [List.length_drop, List.length_take]; rfl)) ?_; (with_reducible refine (R2_Far.calls a0_2 a1 t213 _ A3.out).mono ?_); rintro e w' ⟨rfl, ⟨nd, rfl⟩⟩; refine ⟨_, rfl, ?_⟩) | ((with_reducible refine gate_callee (f := 22) rfl ?_); refine goesL_ (some 14) rfl rfl Tryd.func22 kk rfl #[.int .i64 a0_3, .int .i64 a1] rfl (by (try simp only [List.map_toArray, List.map_cons, List.map_nil]); first | done | rfl | (simp only [List.length_drop, List.length_take]; rfl)) ?_; (with_reducible refine (R2_Far.calls a0_3 a1 t214 _ A4.out).mono ?_); rintro e w' ⟨rfl, ⟨nd, rfl⟩⟩; refine ⟨_, rfl, ?_⟩))
  go_ret
  exact ⟨pe, pw⟩
 replace c5 := Bool.eq_false_iff.mpr c5
 subst c5
 have H1 : (if a0_1 = true then (some false) else (if t213 = true then (some false) else (some (!t214)))) = some r := by rw [if_neg (show ¬ (false = true) by decide)] at H; exact H
 clear H
 have H := H1
 clear H1
 by_cases c8 : a0_1 = true
 ·subst c8
  have H1 : (some false) = some r := by rw [if_pos rfl] at H; exact H
  clear H
  have H := H1
  clear H1
  obtain rfl := Option.some.inj H
  go_enter Tryd.func32, Tryd.ntmps32
  go_wp2_with (first | ((with_reducible refine gate_dst (N := 2) rfl ?_); refine box_event ?hg (N := 2) ?hd (cs := #[.bool false, .bool true, .int .i64 a0_2, .int .i64 a0_3]) (t := 49) ?hr ?_; (case hd => rfl); (case hg => rfl); (case hr => first | (go_simp; done) | (go_simp; rfl)); intro gb212 hg w9 hbox hb; have n0_ := am (below_step pw hb); have n1_ := am (hbox); have n2_ := am ((by rw [hg]; exact (below_size pw) : w.heap.size ≤ gb212)); have n3_ := am ((by rw [hg]; exact (below_size pw) : w.heap.size ≤ gb212)); clear HB; have HB := n0_; have BK212 := n1_; have GW212 := n2_; have GE212 := n3_; clear n0_ n1_ n2_ n3_; clear hb hbox hg; have hcz10_0 : w9.cell? ⟨gb212, 0, none⟩ = some (.bool false) := bc BK212 0; have hcz10_1 : w9.cell? ⟨gb212, 1, none⟩ = some (.bool true) := bc BK212 1; have hcz10_2 : w9.cell? ⟨gb212, 2, none⟩ = some (.int .i64 a0_2) := bc BK212 2; have hcz10_3 : w9.cell? ⟨gb212, 3, none⟩ = some (.int .i64 a0_3) := bc BK212 3; have hfz10_0 := blk_frozen BK212.out 0; have hfz10_1 := blk_frozen BK212.out 1; have hfz10_2 := blk_frozen BK212.out 2; have hfz10_3 := blk_frozen BK212.out 3) | ((with_reducible refine gate_callee (f := 22) rfl ?_); refine goesL_ (some 10) rfl rfl Tryd.func22 kk rfl #[.int .i64 a0_2, .int .i64 a1] rfl (by (try simp only [List.map_toArray, List.map_cons, List.map_nil]); first | done | rfl | (simp only [List.length_drop, List.length_take]; rfl)) ?_; (with_reducible refine (R2_Far.calls a0_2 a1 t213 _ A3.out).mono ?_); rintro e w' ⟨rfl, ⟨nd, rfl⟩⟩; refine ⟨_, rfl, ?_⟩) | ((with_reducible refine gate_callee (f := 22) rfl ?_); refine goesL_ (some 14) rfl rfl Tryd.func22 kk rfl #[.int .i64 a0_3, .int .i64 a1] rfl (by (try simp only [List.map_toArray, List.map_cons, List.map_nil]); first | done | rfl | (simp only [List.length_drop, List.length_take]; rfl)) ?_; (with_reducible refine (R2_Far.calls a0_3 a1 t214 _ A4.out).mono ?_); rintro e w' ⟨rfl, ⟨nd, rfl⟩⟩; refine ⟨_, rfl, ?_⟩))
  go_ret
  exact ⟨pe, pw⟩
 replace c8 := Bool.eq_false_iff.mpr c8
 subst c8
 have H1 : (if t213 = true then (some false) else (some (!t214))) = some r := by rw [if_neg (show ¬ (false = true) by decide)] at H; exact H
 clear H
 have H := H1
 clear H1
 by_cases c11 : t213 = true
 ·subst c11
  have H1 : (some false) = some r := by rw [if_pos rfl] at H; exact H
  clear H
  have H := H1
  clear H1
  obtain rfl := Option.some.inj H
  go_enter Tryd.func32, Tryd.ntmps32
  go_wp2_with (first | ((with_reducible refine gate_dst (N := 2) rfl ?_); refine box_event ?hg (N := 2) ?hd (cs := #[.bool false, .bool false, .int .i64 a0_2, .int .i64 a0_3]) (t := 49) ?hr ?_; (case hd => rfl); (case hg => rfl); (case hr => first | (go_simp; done) | (go_simp; rfl)); intro gb212 hg w12 hbox hb; have n0_ := am (below_step pw hb); have n1_ := am (hbox); have n2_ := am ((by rw [hg]; exact (below_size pw) : w.heap.size ≤ gb212)); have n3_ := am ((by rw [hg]; exact (below_size pw) : w.heap.size ≤ gb212)); clear HB; have HB := n0_; have BK212 := n1_; have GW212 := n2_; have GE212 := n3_; clear n0_ n1_ n2_ n3_; clear hb hbox hg; have hcz13_0 : w12.cell? ⟨gb212, 0, none⟩ = some (.bool false) := bc BK212 0; have hcz13_1 : w12.cell? ⟨gb212, 1, none⟩ = some (.bool false) := bc BK212 1; have hcz13_2 : w12.cell? ⟨gb212, 2, none⟩ = some (.int .i64 a0_2) := bc BK212 2; have hcz13_3 : w12.cell? ⟨gb212, 3, none⟩ = some (.int .i64 a0_3) := bc BK212 3; have hfz13_0 := blk_frozen BK212.out 0; have hfz13_1 := blk_frozen BK212.out 1; have hfz13_2 := blk_frozen BK212.out 2; have hfz13_3 := blk_frozen BK212.out 3) | ((with_reducible refine gate_callee (f := 22) rfl ?_); refine goesL_ (some 10) rfl rfl Tryd.func22 kk rfl #[.int .i64 a0_2, .int .i64 a1] rfl (by (try simp only [List.map_toArray, List.map_cons, List.map_nil]); first | done | rfl | (simp only [List.length_drop, List.length_take]; rfl)) ?_; (with_reducible refine (R2_Far.calls a0_2 a1 true _ A3.out).mono ?_); rintro e w' ⟨rfl, ⟨nd, rfl⟩⟩; refine ⟨_, rfl, ?_⟩) | ((with_reducible refine gate_callee (f := 22) rfl ?_); refine goesL_ (some 14) rfl rfl Tryd.func22 kk rfl #[.int .i64 a0_3, .int .i64 a1] rfl (by (try simp only [List.map_toArray, List.map_cons, List.map_nil]); first | done | rfl | (simp only [List.length_drop, List.length_take]; rfl)) ?_; (with_reducible refine (R2_Far.calls a0_3 a1 t214 _ A4.out).mono ?_); rintro e w' ⟨rfl, ⟨nd, rfl⟩⟩; refine ⟨_, rfl, ?_⟩))
  go_ret
  exact ⟨pe, pw⟩
 replace c11 := Bool.eq_false_iff.mpr c11
 subst c11
 have H1 : (some (!t214)) = some r := by rw [if_neg (show ¬ (false = true) by decide)] at H; exact H
 clear H
 have H := H1
 clear H1
 obtain rfl := Option.some.inj H
 go_enter Tryd.func32, Tryd.ntmps32
 go_wp2_with (first | ((with_reducible refine gate_dst (N := 2) rfl ?_); refine box_event ?hg (N := 2) ?hd (cs := #[.bool false, .bool false, .int .i64 a0_2, .int .i64 a0_3]) (t := 49) ?hr ?_; (case hd => rfl); (case hg => rfl); (case hr => first | (go_simp; done) | (go_simp; rfl)); intro gb212 hg w14 hbox hb; have n0_ := am (below_step pw hb); have n1_ := am (hbox); have n2_ := am ((by rw [hg]; exact (below_size pw) : w.heap.size ≤ gb212)); have n3_ := am ((by rw [hg]; exact (below_size pw) : w.heap.size ≤ gb212)); clear HB; have HB := n0_; have BK212 := n1_; have GW212 := n2_; have GE212 := n3_; clear n0_ n1_ n2_ n3_; clear hb hbox hg; have hcz15_0 : w14.cell? ⟨gb212, 0, none⟩ = some (.bool false) := bc BK212 0; have hcz15_1 : w14.cell? ⟨gb212, 1, none⟩ = some (.bool false) := bc BK212 1; have hcz15_2 : w14.cell? ⟨gb212, 2, none⟩ = some (.int .i64 a0_2) := bc BK212 2; have hcz15_3 : w14.cell? ⟨gb212, 3, none⟩ = some (.int .i64 a0_3) := bc BK212 3; have hfz15_0 := blk_frozen BK212.out 0; have hfz15_1 := blk_frozen BK212.out 1; have hfz15_2 := blk_frozen BK212.out 2; have hfz15_3 := blk_frozen BK212.out 3) | ((with_reducible refine gate_callee (f := 22) rfl ?_); refine goesL_ (some 10) rfl rfl Tryd.func22 kk rfl #[.int .i64 a0_2, .int .i64 a1] rfl (by (try simp only [List.map_toArray, List.map_cons, List.map_nil]); first | done | rfl | (simp only [List.length_drop, List.length_take]; rfl)) ?_; (with_reducible refine (R2_Far.calls a0_2 a1 false _ A3.out).mono ?_); rintro e w' ⟨rfl, ⟨nd, rfl⟩⟩; refine ⟨_, rfl, ?_⟩) | ((with_reducible refine gate_callee (f := 22) rfl ?_); refine goesL_ (some 14) rfl rfl Tryd.func22 kk rfl #[.int .i64 a0_3, .int .i64 a1] rfl (by (try simp only [List.map_toArray, List.map_cons, List.map_nil]); first | done | rfl | (simp only [List.length_drop, List.length_take]; rfl)) ?_; (with_reducible refine (R2_Far.calls a0_3 a1 t214 _ A4.out).mono ?_); rintro e w' ⟨rfl, ⟨nd, rfl⟩⟩; refine ⟨_, rfl, ?_⟩))
 go_ret
 exact ⟨pe, pw⟩

/-! ### R2_StandsOf: function 34 -/
def R2_StandsOf.j0 : Nat → Int → Int → ByteArray → Bool → Option (Bool)
 | 0, _, _, _, _ => none
 | k + 1, x0, x2, x7, x18 => if x18 = true then (some (x0 == x2)) else (if x7.toList = ([33, 61] : List UInt8) then (some (x0 != x2)) else (if x7.toList = ([62] : List UInt8) then (some (decide (x0 > x2))) else (some (decide (x0 ≥ x2)))))
def R2_StandsOf.f (k : Nat) (a0 : Int) (a1 : ByteArray) (a2 : Int) : Option (Bool) := if a1.toList = ([60] : List UInt8) then (some (decide (a0 < a2))) else (if a1.toList = ([60, 61] : List UInt8) then (some (decide (a0 ≤ a2))) else (if a1.toList = ([61] : List UInt8) then (R2_StandsOf.j0 k a0 a2 a1 (a1.toList == ([61] : List UInt8))) else (R2_StandsOf.j0 k a0 a2 a1 (a1.toList == ([61, 61] : List UInt8)))))
theorem R2_StandsOf.mono_l : ∀ k, (∀ y0 y1 y2 y3, LeO (R2_StandsOf.j0 k y0 y1 y2 y3) (R2_StandsOf.j0 (k + 1) y0 y1 y2 y3))
 | 0 => fun _ _ _ _ r h => by simp [R2_StandsOf.j0] at h
 | k + 1 => by
  have ih0 := R2_StandsOf.mono_l k
  intro y0 y1 y2 y3
  unfold R2_StandsOf.j0
  repeat' first
  | (with_reducible exact ih0 _ _ _ _)
  | (with_reducible exact LeO.refl _)
  | (with_reducible exact LeO.none _)
  | (with_reducible refine LeO.ite ?_ ?_)
  | (with_reducible refine LeO.bind ?_ (fun _ => ?_))
  | exact ih0 _ _ _ _
  | exact LeO.none _
  | refine LeO.ite ?_ ?_
  | refine LeO.bind ?_ (fun _ => ?_)
theorem R2_StandsOf.mono : ∀ a0 a1 a2 k, LeO (R2_StandsOf.f k a0 a1 a2) (R2_StandsOf.f (k + 1) a0 a1 a2) := by
 intro a0 a1 a2 k
 have ih0 := R2_StandsOf.mono_l k
 unfold R2_StandsOf.f
 repeat' first
   | (with_reducible exact ih0 _ _ _ _)
   | (with_reducible exact LeO.refl _)
   | (with_reducible exact LeO.none _)
   | (with_reducible refine LeO.ite ?_ ?_)
   | (with_reducible refine LeO.bind ?_ (fun _ => ?_))
   | exact ih0 _ _ _ _
   | exact LeO.none _
   | refine LeO.ite ?_ ?_
   | refine LeO.bind ?_ (fun _ => ?_)
set_option maxHeartbeats 8000000 in
set_option maxRecDepth 100000 in
theorem R2_StandsOf.calls [EA] (k : Nat) (a0 : Int) (a1 : ByteArray) (a2 : Int) (r : Bool) (w : World) (h : R2_StandsOf.f k a0 a1 a2 = some r) :
  Calls Tryd.prog 34 #[.int .i64 a0, .string a1, .int .i64 a2] w fun e w' => e = .returned (.bool r) ∧ Drawn0 w w' := by
 have H : (if a1.toList = ([60] : List UInt8) then (some (decide (a0 < a2))) else (if a1.toList = ([60, 61] : List UInt8) then (some (decide (a0 ≤ a2))) else (if a1.toList = ([61] : List UInt8) then (R2_StandsOf.j0 k a0 a2 a1 (a1.toList == ([61] : List UInt8))) else (R2_StandsOf.j0 k a0 a2 a1 (a1.toList == ([61, 61] : List UInt8)))))) = some r := h
 clear h
 by_cases c4 : a1.toList = ([60] : List UInt8)
 ·rw [if_pos c4] at H
  have c4b0 : (a1.toList == ([60] : List UInt8)) = true := beq_iff_eq.mpr c4
  have c4b1 : (a1.toList != ([60] : List UInt8)) = false := bne_eq_false_iff_eq.mpr c4
  clear c4
  obtain rfl := Option.some.inj H
  go_enter Tryd.func34, Tryd.ntmps34
  go_wp2
  go_ret
  exact ⟨by first | rfl | (simp; done) | (simp [*]; done), by repeat (first | exact Drawn0.refl _ | apply Drawn0.step)⟩
 rw [if_neg c4] at H
 have c4b0 : (a1.toList == ([60] : List UInt8)) = false := beq_eq_false_iff_ne.mpr c4
 have c4b1 : (a1.toList != ([60] : List UInt8)) = true := bne_iff_ne.mpr c4
 by_cases c5 : a1.toList = ([60, 61] : List UInt8)
 ·rw [if_pos c5] at H
  have c5b0 : (a1.toList == ([60, 61] : List UInt8)) = true := beq_iff_eq.mpr c5
  have c5b1 : (a1.toList != ([60, 61] : List UInt8)) = false := bne_eq_false_iff_eq.mpr c5
  clear c5
  obtain rfl := Option.some.inj H
  go_enter Tryd.func34, Tryd.ntmps34
  go_wp2
  go_ret
  exact ⟨by first | rfl | (simp; done) | (simp [*]; done), by repeat (first | exact Drawn0.refl _ | apply Drawn0.step)⟩
 rw [if_neg c5] at H
 have c5b0 : (a1.toList == ([60, 61] : List UInt8)) = false := beq_eq_false_iff_ne.mpr c5
 have c5b1 : (a1.toList != ([60, 61] : List UInt8)) = true := bne_iff_ne.mpr c5
 have HC6 := am H
 clear H
 go_enter Tryd.func34, Tryd.ntmps34
 go_upto_if 18 with (fail)
 go_cut [18] (fun v18 wc => ∃ (kq : Nat) (x18_5 : Bool), v18 = .bool x18_5 ∧ Aside0 (R2_StandsOf.j0 kq a0 a2 a1 x18_5 = some r) ∧ Aside0 (kq ≤ k) ∧ Drawn0 w wc)
 case first =>
  have H := HC6.out
  clear HC6
  by_cases c7 : a1.toList = ([61] : List UInt8)
  ·rw [if_pos c7] at H
   have c7b0 : (a1.toList == ([61] : List UInt8)) = true := beq_iff_eq.mpr c7
   have c7b1 : (a1.toList != ([61] : List UInt8)) = false := bne_eq_false_iff_eq.mpr c7
   clear c7
   (first | rw [c7b0] | (simp only [i64_w, i32_w]; rw [c7b0]) | skip)
   have H' := am H
   clear H
   go_wp2
   go_meet
   case rel => exact ⟨_, ((a1.toList == ([61] : List UInt8))), pr, H', ⟨by first | omega | exact Nat.le_refl _⟩, by repeat (first | exact Drawn0.refl _ | apply Drawn0.step)⟩
  rw [if_neg c7] at H
  have c7b0 : (a1.toList == ([61] : List UInt8)) = false := beq_eq_false_iff_ne.mpr c7
  have c7b1 : (a1.toList != ([61] : List UInt8)) = true := bne_iff_ne.mpr c7
  (first | rw [c7b0] | (simp only [i64_w, i32_w]; rw [c7b0]) | skip)
  have H' := am H
  clear H
  go_wp2
  go_meet
  case rel => exact ⟨_, ((a1.toList == ([61, 61] : List UInt8))), pr, H', ⟨by first | omega | exact Nat.le_refl _⟩, by repeat (first | exact Drawn0.refl _ | apply Drawn0.step)⟩
 clear HC6
 try clear p2
 try clear c3
 try clear c4
 try clear c4b0
 try clear c4b1
 try clear c5
 try clear c5b0
 try clear c5b1
 try clear c7
 try clear c7b0
 try clear c7b1
 obtain ⟨kq, x18_5, rfl, HA, HJ5, ⟨mc5, rfl⟩⟩ := hcut
 cases kq with
 | zero => exact absurd HA.out (by simp [R2_StandsOf.j0])
 | succ kj5 =>
  have H := HA.out
  clear HA
  simp only [R2_StandsOf.j0] at H
  by_cases c8 : x18_5 = true
  ·subst c8
   have H1 : (some (a0 == a2)) = some r := by rw [if_pos rfl] at H; exact H
   clear H
   have H := H1
   clear H1
   obtain rfl := Option.some.inj H
   go_wp2
   go_ret
   exact ⟨by first | rfl | (simp; done) | (simp [*]; done), by repeat (first | exact Drawn0.refl _ | apply Drawn0.step)⟩
  replace c8 := Bool.eq_false_iff.mpr c8
  subst c8
  have H1 : (if a1.toList = ([33, 61] : List UInt8) then (some (a0 != a2)) else (if a1.toList = ([62] : List UInt8) then (some (decide (a0 > a2))) else (some (decide (a0 ≥ a2))))) = some r := by rw [if_neg (show ¬ (false = true) by decide)] at H; exact H
  clear H
  have H := H1
  clear H1
  by_cases c9 : a1.toList = ([33, 61] : List UInt8)
  ·rw [if_pos c9] at H
   have c9b0 : (a1.toList == ([33, 61] : List UInt8)) = true := beq_iff_eq.mpr c9
   have c9b1 : (a1.toList != ([33, 61] : List UInt8)) = false := bne_eq_false_iff_eq.mpr c9
   clear c9
   obtain rfl := Option.some.inj H
   go_wp2
   go_ret
   exact ⟨by first | rfl | (simp; done) | (simp [*]; done), by repeat (first | exact Drawn0.refl _ | apply Drawn0.step)⟩
  rw [if_neg c9] at H
  have c9b0 : (a1.toList == ([33, 61] : List UInt8)) = false := beq_eq_false_iff_ne.mpr c9
  have c9b1 : (a1.toList != ([33, 61] : List UInt8)) = true := bne_iff_ne.mpr c9
  by_cases c10 : a1.toList = ([62] : List UInt8)
  ·rw [if_pos c10] at H
   have c10b0 : (a1.toList == ([62] : List UInt8)) = true := beq_iff_eq.mpr c10
   have c10b1 : (a1.toList != ([62] : List UInt8)) = false := bne_eq_false_iff_eq.mpr c10
   clear c10
   obtain rfl := Option.some.inj H
   go_wp2
   go_ret
   exact ⟨by first | rfl | (simp; done) | (simp [*]; done), by repeat (first | exact Drawn0.refl _ | apply Drawn0.step)⟩
  rw [if_neg c10] at H
  have c10b0 : (a1.toList == ([62] : List UInt8)) = false := beq_eq_false_iff_ne.mpr c10
  have c10b1 : (a1.toList != ([62] : List UInt8)) = true := bne_iff_ne.mpr c10
  obtain rfl := Option.some.inj H
  go_wp2
  go_ret
  exact ⟨by first | rfl | (simp; done) | (simp [*]; done), by repeat (first | exact Drawn0.refl _ | apply Drawn0.step)⟩

end Go.Proofs.YtcalcnfppnbooaaDoor.R
