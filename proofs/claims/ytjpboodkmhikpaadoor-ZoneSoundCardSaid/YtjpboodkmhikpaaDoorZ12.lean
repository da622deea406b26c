-- Written by wip/xprint.py (the session's program over the kit's print).
import Derived.Test.YtjpboodkmhikpaaDoorEb
import Derived.Test.YtjpboodkmhikpaaDoorZa
import Derived.Test.YtjpboodkmhikpaaDoorZh
import Derived.Test.YtjpboodkmhikpaaDoorZj
import Derived.Test.YtjpboodkmhikpaaDoorZo
import Derived.Test.YtjpboodkmhikpaaDoorZ0
import Derived.Test.YtjpboodkmhikpaaDoorZ4
import Derived.Test.YtjpboodkmhikpaaDoorZ5
import Derived.Test.YtjpboodkmhikpaaDoorZ10
import Derived.Test.YtjpboodkmhikpaaDoorZ11
namespace Go.Proofs.YtjpboodkmhikpaaDoor.Z
open Go.RowKit Go.Proofs.YtjpboodkmhikpaaDoorW.PrintWords Go.Proofs.YtjpboodkmhikpaaDoorW.PrintLast Go.Proofs.YtjpboodkmhikpaaDoorW.PrintMore Go.Proofs.Rcg
attribute [local go_sem] max2_int min2_int max_two min_two max_three min_three max_four min_four   -- for this text's walks alone
set_option linter.unusedVariables false
set_option linter.unusedSimpArgs false

/-! ### L2_ZoneSound: function 14 -/
set_option maxHeartbeats 8000000 in
set_option maxRecDepth 100000 in
theorem L2_ZoneSound.calls [EA] (k : Nat) (a0_0 : Int) (A0_1 : Option Addr) (c0_1 : Nat) (l0_1 : List (S112)) (a1_0 : Int) (A1_1 : Option Addr) (c1_1 : Nat) (l1_1 : List (S112)) (A2 : Option Addr) (c2 : Nat) (l2 : List Int) (a3 : Int) (a4 : Int) (a5 : Int) (r : Bool) (w : World) (hr0_1 : Kd.C k112 w A0_1 l0_1.length l0_1) (hc0_1 : l0_1.length ≤ c0_1) (hr1_1 : Kd.C k112 w A1_1 l1_1.length l1_1) (hc1_1 : l1_1.length ≤ c1_1) (hr2 : Kd.C (Kd.int .i64) w A2 l2.length l2) (hc2 : l2.length ≤ c2) (h : L2_ZoneSound.f k a0_0 l0_1 a1_0 l1_1 l2 a3 a4 a5 = some r) (h2_ : ErrAt 2 1 w) (h3_ : ErrAt 3 0 w) (h4_ : ErrAt 4 3 w) :
  Calls Tryd.prog 14 #[.agg #[.int .i64 a0_0, .slice A0_1 l0_1.length c0_1], .agg #[.int .i64 a1_0, .slice A1_1 l1_1.length c1_1], .slice A2 l2.length c2, .int .i64 a3, .int .i64 a4, .int .i64 a5] w fun e w' => e = .returned (.bool r) ∧ Below w.heap.size w w' := by
 have hE2 := am h2_
 clear h2_
 have hE3 := am h3_
 clear h3_
 have hE4 := am h4_
 clear h4_
 have hu33 := Tryd.underlying33
 have hu37 := Tryd.underlying37
 have hu26 := Tryd.underlying26
 have HR0_1 := am hr0_1
 have HC0_1 := am hc0_1
 clear hr0_1 hc0_1
 have HR1_1 := am hr1_1
 have HC1_1 := am hc1_1
 clear hr1_1 hc1_1
 have HR2 := am hr2
 have HC2 := am hc2
 clear hr2 hc2
 have HB := am (Below.refl w.heap.size w)
 have H : ((L2_free.f k).bind fun t372 => (if t372 = true then (if (l0_1.length : Int) > 100 then (L2_ZoneSound.j0 k l2 a3 a4 a5 t372 true a0_0 l0_1 a1_0 l1_1) else (if (l1_1.length : Int) > 100 then (L2_ZoneSound.j0 k l2 a3 a4 a5 t372 true a0_0 l0_1 a1_0 l1_1) else (if (l2.length : Int) > 10 then (L2_ZoneSound.j0 k l2 a3 a4 a5 t372 true a0_0 l0_1 a1_0 l1_1) else ((R2_Far.f a5 1048576).bind fun t373 => (if t373 = true then (L2_ZoneSound.j0 k l2 a3 a4 a5 t372 true a0_0 l0_1 a1_0 l1_1) else ((L2_near.f k l0_1).bind fun t374 => (if t374 = true then ((L2_near.f k l1_1).bind fun t375 => (L2_ZoneSound.j0 k l2 a3 a4 a5 t372 (!t375) a0_0 l0_1 a1_0 l1_1)) else (L2_ZoneSound.j0 k l2 a3 a4 a5 t372 true a0_0 l0_1 a1_0 l1_1)))))))) else (L2_ZoneSound.j0 k l2 a3 a4 a5 t372 true a0_0 l0_1 a1_0 l1_1))) = some r := h
 clear h
 replace H := Option.bind_eq_some_iff.mp H
 obtain ⟨t372, A70, H⟩ := H
 replace H : (if t372 = true then (if (l0_1.length : Int) > 100 then (L2_ZoneSound.j0 k l2 a3 a4 a5 t372 true a0_0 l0_1 a1_0 l1_1) else (if (l1_1.length : Int) > 100 then (L2_ZoneSound.j0 k l2 a3 a4 a5 t372 true a0_0 l0_1 a1_0 l1_1) else (if (l2.length : Int) > 10 then (L2_ZoneSound.j0 k l2 a3 a4 a5 t372 true a0_0 l0_1 a1_0 l1_1) else ((R2_Far.f a5 1048576).bind fun t373 => (if t373 = true then (L2_ZoneSound.j0 k l2 a3 a4 a5 t372 true a0_0 l0_1 a1_0 l1_1) else ((L2_near.f k l0_1).bind fun t374 => (if t374 = true then ((L2_near.f k l1_1).bind fun t375 => (L2_ZoneSound.j0 k l2 a3 a4 a5 t372 (!t375) a0_0 l0_1 a1_0 l1_1)) else (L2_ZoneSound.j0 k l2 a3 a4 a5 t372 true a0_0 l0_1 a1_0 l1_1)))))))) else (L2_ZoneSound.j0 k l2 a3 a4 a5 t372 true a0_0 l0_1 a1_0 l1_1)) = some r := H
 have A7 := am A70
 clear A70
 have HC8 := am H
 clear H
 go_enter Tryd.func14, Tryd.ntmps14
 go_upto_region 2 with (first | ((with_reducible refine gate_dst (N := 6) rfl ?_); (try (refine gate_guard (by rfl) ?_; dsimp only)); refine box_event ?hg (N := 6) ?hd (cs := #[.int .i64 a0_0, .slice A0_1 l0_1.length c0_1]) (t := 33) ?hr ?_; (case hd => rfl); (case hg => rfl); (case hr => first | (go_simp; done) | (go_simp; rfl)); intro gb370 hg w9 hbox hb; have n0_ := am (below_step pw hb); have n1_ := am (hbox); have n2_ := am ((by rw [hg]; exact (below_size pw) : w.heap.size ≤ gb370)); have n3_ := am ((by rw [hg]; exact (below_size pw) : w.heap.size ≤ gb370)); clear HB; have HB := n0_; have BK370 := n1_; have GW370 := n2_; have GE370 := n3_; clear n0_ n1_ n2_ n3_; clear hb hbox hg) | ((with_reducible refine gate_dst (N := 7) rfl ?_); (try (refine gate_guard (by rfl) ?_; dsimp only)); refine box_event ?hg (N := 7) ?hd (cs := #[.int .i64 a1_0, .slice A1_1 l1_1.length c1_1]) (t := 33) ?hr ?_; (case hd => rfl); (case hg => rfl); (case hr => first | (go_simp; done) | (go_simp; rfl)); intro gb371 hg w10 hbox hb; have n0_ := bb BK370 hb; have n1_ := am (below_step pw hb); have n2_ := am (hbox); have n3_ := am ((by rw [hg]; exact (below_size pw) : w.heap.size ≤ gb371)); have n4_ := am ((by rw [hg]; exact (below_size pw) : w.heap.size ≤ gb371)); have n5_ := am ((by rw [hg]; exact Nat.ne_of_lt (blk_lt pk) : gb370 ≠ gb371)); have n6_ := am ((by rw [hg]; exact Nat.ne_of_gt (blk_lt pk) : gb371 ≠ gb370)); clear BK370; clear HB; have BK370 := n0_; have HB := n1_; have BK371 := n2_; have GW371 := n3_; have GE371 := n4_; have NB370_371 := n5_; have NB371_370 := n6_; clear n0_ n1_ n2_ n3_ n4_ n5_ n6_; clear hb hbox hg) | ((with_reducible refine gate_callee (f := 20) rfl ?_); refine goesL_ (some 22) rfl rfl Tryd.func20 kk rfl #[] rfl (by (try simp only [List.map_toArray, List.map_cons, List.map_nil]); first | done | rfl | (simp only [List.length_drop, List.length_take]; rfl)) ?_; (with_reducible refine (L2_free.calls k  t372 _ A7.out (am (ErrAt.below hE2.out pw)).out (am (ErrAt.below hE3.out pw)).out).mono ?_); rintro e w11 ⟨rfl, hb⟩; refine ⟨_, rfl, ?_⟩; have n0_ := bb BK370 hb; have n1_ := bb BK371 hb; have n2_ := am (below_step pw hb); clear BK370; clear BK371; clear HB; have BK370 := n0_; have BK371 := n1_; have HB := n2_; clear n0_ n1_ n2_; (try clear hb); (try clear hb2); (try clear hk); (try clear hi)))
 (try simp only [Act.put, List.setIfInBounds_toArray, List.set_cons_zero, List.set_cons_succ])
 go_cut [57] (fun v57 wc => ∃ (kq : Nat) (x57_7 : Bool), v57 = .bool x57_7 ∧ Aside0 (L2_ZoneSound.j0 kq l2 a3 a4 a5 t372 x57_7 a0_0 l0_1 a1_0 l1_1 = some r) ∧ Aside0 (kq ≤ k) ∧ Aside0 (wc.heap[gb370]? = some (.cells #[.int .i64 a0_0, (.slice A0_1 l0_1.length c0_1)] 33 (0, 0))) ∧ Aside0 (wc.heap[gb371]? = some (.cells #[.int .i64 a1_0, (.slice A1_1 l1_1.length c1_1)] 33 (0, 0))) ∧ Aside0 (Below w.heap.size w wc))
 case first =>
  have H := HC8.out
  clear HC8
  by_cases c12 : t372 = true
  ·subst c12
   have H1 : (if (l0_1.length : Int) > 100 then (L2_ZoneSound.j0 k l2 a3 a4 a5 true true a0_0 l0_1 a1_0 l1_1) else (if (l1_1.length : Int) > 100 then (L2_ZoneSound.j0 k l2 a3 a4 a5 true true a0_0 l0_1 a1_0 l1_1) else (if (l2.length : Int) > 10 then (L2_ZoneSound.j0 k l2 a3 a4 a5 true true a0_0 l0_1 a1_0 l1_1) else ((R2_Far.f a5 1048576).bind fun t373 => (if t373 = true then (L2_ZoneSound.j0 k l2 a3 a4 a5 true true a0_0 l0_1 a1_0 l1_1) else ((L2_near.f k l0_1).bind fun t374 => (if t374 = true then ((L2_near.f k l1_1).bind fun t375 => (L2_ZoneSound.j0 k l2 a3 a4 a5 true (!t375) a0_0 l0_1 a1_0 l1_1)) else (L2_ZoneSound.j0 k l2 a3 a4 a5 true true a0_0 l0_1 a1_0 l1_1)))))))) = some r := by rw [if_pos rfl] at H; exact H
   clear H
   have H := H1
   clear H1
   by_cases c13 : (l0_1.length : Int) > 100
   ·rw [if_pos c13] at H
    have c13b0 : decide (100 < (l0_1.length : Int)) = true := decide_eq_true c13
    have c13b1 : decide (100 < l0_1.length) = true := decide_eq_true (by omega)
    clear c13
    (first | rw [c13b0] | (simp only [i64_w, i32_w]; rw [c13b0]) | skip)
    as_aux_lemma =>
     have H' := am H
     clear H
     have hnb14 := NB370_371.out
     have hnc14 := NB371_370.out
     have hcz15_0 : w11.cell? ⟨gb370, 0, none⟩ = some (.int .i64 a0_0) := bc BK370 0
     have hcz15_1 : w11.cell? ⟨gb370, 1, none⟩ = some (.slice A0_1 l0_1.length c0_1) := bc BK370 1
     have hfz15_0 := blk_frozen BK370.out 0
     have hfz15_1 := blk_frozen BK370.out 1
     go_wp2
     go_meet
     case rel => exact ⟨_, (true), pr, H', ⟨by first | omega | exact Nat.le_refl _⟩, ⟨pk⟩, ⟨pk⟩, ⟨pw⟩⟩
   rw [if_neg c13] at H
   have c13b0 : decide (100 < (l0_1.length : Int)) = false := decide_eq_false c13
   have c13b1 : decide (100 < l0_1.length) = false := decide_eq_false (by omega)
   clear c13
   (first | rw [c13b0] | (simp only [i64_w, i32_w]; rw [c13b0]) | skip)
   by_cases c16 : (l1_1.length : Int) > 100
   ·rw [if_pos c16] at H
    have c16b0 : decide (100 < (l1_1.length : Int)) = true := decide_eq_true c16
    have c16b1 : decide (100 < l1_1.length) = true := decide_eq_true (by omega)
    clear c16
    as_aux_lemma =>
     have H' := am H
     clear H
     have hnb17 := NB370_371.out
     have hnc17 := NB371_370.out
     have hcz18_0 : w11.cell? ⟨gb370, 0, none⟩ = some (.int .i64 a0_0) := bc BK370 0
     have hcz18_1 : w11.cell? ⟨gb370, 1, none⟩ = some (.slice A0_1 l0_1.length c0_1) := bc BK370 1
     have hfz18_0 := blk_frozen BK370.out 0
     have hfz18_1 := blk_frozen BK370.out 1
     have hcz19_0 : w11.cell? ⟨gb371, 0, none⟩ = some (.int .i64 a1_0) := bc BK371 0
     have hcz19_1 : w11.cell? ⟨gb371, 1, none⟩ = some (.slice A1_1 l1_1.length c1_1) := bc BK371 1
     have hfz19_0 := blk_frozen BK371.out 0
     have hfz19_1 := blk_frozen BK371.out 1
     go_wp2
     go_meet
     case rel => exact ⟨_, (true), pr, H', ⟨by first | omega | exact Nat.le_refl _⟩, ⟨pk⟩, ⟨pk⟩, ⟨pw⟩⟩
   rw [if_neg c16] at H
   have c16b0 : decide (100 < (l1_1.length : Int)) = false := decide_eq_false c16
   have c16b1 : decide (100 < l1_1.length) = false := decide_eq_false (by omega)
   clear c16
   by_cases c20 : (l2.length : Int) > 10
   ·rw [if_pos c20] at H
    have c20b0 : decide (10 < (l2.length : Int)) = true := decide_eq_true c20
    have c20b1 : decide (10 < l2.length) = true := decide_eq_true (by omega)
    clear c20
    as_aux_lemma =>
     have H' := am H
     clear H
     have hnb21 := NB370_371.out
     have hnc21 := NB371_370.out
     have hcz22_0 : w11.cell? ⟨gb370, 0, none⟩ = some (.int .i64 a0_0) := bc BK370 0
     have hcz22_1 : w11.cell? ⟨gb370, 1, none⟩ = some (.slice A0_1 l0_1.length c0_1) := bc BK370 1
     have hfz22_0 := blk_frozen BK370.out 0
     have hfz22_1 := blk_frozen BK370.out 1
     have hcz23_0 : w11.cell? ⟨gb371, 0, none⟩ = some (.int .i64 a1_0) := bc BK371 0
     have hcz23_1 : w11.cell? ⟨gb371, 1, none⟩ = some (.slice A1_1 l1_1.length c1_1) := bc BK371 1
     have hfz23_0 := blk_frozen BK371.out 0
     have hfz23_1 := blk_frozen BK371.out 1
     go_wp2
     go_meet
     case rel => exact ⟨_, (true), pr, H', ⟨by first | omega | exact Nat.le_refl _⟩, ⟨pk⟩, ⟨pk⟩, ⟨pw⟩⟩
   rw [if_neg c20] at H
   have c20b0 : decide (10 < (l2.length : Int)) = false := decide_eq_false c20
   have c20b1 : decide (10 < l2.length) = false := decide_eq_false (by omega)
   clear c20
   replace H := Option.bind_eq_some_iff.mp H
   obtain ⟨t373, A240, H⟩ := H
   replace H : (if t373 = true then (L2_ZoneSound.j0 k l2 a3 a4 a5 true true a0_0 l0_1 a1_0 l1_1) else ((L2_near.f k l0_1).bind fun t374 => (if t374 = true then ((L2_near.f k l1_1).bind fun t375 => (L2_ZoneSound.j0 k l2 a3 a4 a5 true (!t375) a0_0 l0_1 a1_0 l1_1)) else (L2_ZoneSound.j0 k l2 a3 a4 a5 true true a0_0 l0_1 a1_0 l1_1)))) = some r := H
   have A24 := am A240
   clear A240
   by_cases c25 : t373 = true
   ·subst c25
    have H1 : (L2_ZoneSound.j0 k l2 a3 a4 a5 true true a0_0 l0_1 a1_0 l1_1) = some r := by rw [if_pos rfl] at H; exact H
    clear H
    have H := H1
    clear H1
    as_aux_lemma =>
     have H' := am H
     clear H
     have hnb26 := NB370_371.out
     have hnc26 := NB371_370.out
     have hcz27_0 : w11.cell? ⟨gb370, 0, none⟩ = some (.int .i64 a0_0) := bc BK370 0
     have hcz27_1 : w11.cell? ⟨gb370, 1, none⟩ = some (.slice A0_1 l0_1.length c0_1) := bc BK370 1
     have hfz27_0 := blk_frozen BK370.out 0
     have hfz27_1 := blk_frozen BK370.out 1
     have hcz28_0 : w11.cell? ⟨gb371, 0, none⟩ = some (.int .i64 a1_0) := bc BK371 0
     have hcz28_1 : w11.cell? ⟨gb371, 1, none⟩ = some (.slice A1_1 l1_1.length c1_1) := bc BK371 1
     have hfz28_0 := blk_frozen BK371.out 0
     have hfz28_1 := blk_frozen BK371.out 1
     go_wp2_with (first | (go_at_call 37; (with_reducible refine (R2_Far.calls a5 1048576 true _ A24.out).mono ?_); rintro e w' ⟨rfl, ⟨nd, rfl⟩⟩))
     go_meet
     case rel => exact ⟨_, (true), pr, H', ⟨by first | omega | exact Nat.le_refl _⟩, ⟨pk⟩, ⟨pk⟩, ⟨pw⟩⟩
   replace c25 := Bool.eq_false_iff.mpr c25
   subst c25
   have H1 : ((L2_near.f k l0_1).bind fun t374 => (if t374 = true then ((L2_near.f k l1_1).bind fun t375 => (L2_ZoneSound.j0 k l2 a3 a4 a5 true (!t375) a0_0 l0_1 a1_0 l1_1)) else (L2_ZoneSound.j0 k l2 a3 a4 a5 true true a0_0 l0_1 a1_0 l1_1))) = some r := by rw [if_neg (show ¬ (false = true) by decide)] at H; exact H
   clear H
   have H := H1
   clear H1
   replace H := Option.bind_eq_some_iff.mp H
   obtain ⟨t374, A290, H⟩ := H
   replace H : (if t374 = true then ((L2_near.f k l1_1).bind fun t375 => (L2_ZoneSound.j0 k l2 a3 a4 a5 true (!t375) a0_0 l0_1 a1_0 l1_1)) else (L2_ZoneSound.j0 k l2 a3 a4 a5 true true a0_0 l0_1 a1_0 l1_1)) = some r := H
   have A29 := am A290
   clear A290
   by_cases c30 : t374 = true
   ·subst c30
    have H1 : ((L2_near.f k l1_1).bind fun t375 => (L2_ZoneSound.j0 k l2 a3 a4 a5 true (!t375) a0_0 l0_1 a1_0 l1_1)) = some r := by rw [if_pos rfl] at H; exact H
    clear H
    have H := H1
    clear H1
    replace H := Option.bind_eq_some_iff.mp H
    obtain ⟨t375, A310, H⟩ := H
    replace H : (L2_ZoneSound.j0 k l2 a3 a4 a5 true (!t375) a0_0 l0_1 a1_0 l1_1) = some r := H
    have A31 := am A310
    clear A310
    as_aux_lemma =>
     have H' := am H
     clear H
     have hnb32 := NB370_371.out
     have hnc32 := NB371_370.out
     have hcz33_0 : w11.cell? ⟨gb370, 0, none⟩ = some (.int .i64 a0_0) := bc BK370 0
     have hcz33_1 : w11.cell? ⟨gb370, 1, none⟩ = some (.slice A0_1 l0_1.length c0_1) := bc BK370 1
     have hfz33_0 := blk_frozen BK370.out 0
     have hfz33_1 := blk_frozen BK370.out 1
     have hcz34_0 : w11.cell? ⟨gb371, 0, none⟩ = some (.int .i64 a1_0) := bc BK371 0
     have hcz34_1 : w11.cell? ⟨gb371, 1, none⟩ = some (.slice A1_1 l1_1.length c1_1) := bc BK371 1
     have hfz34_0 := blk_frozen BK371.out 0
     have hfz34_1 := blk_frozen BK371.out 1
     go_wp2_with (first | (go_at_call 37; (with_reducible refine (R2_Far.calls a5 1048576 false _ A24.out).mono ?_); rintro e w' ⟨rfl, ⟨nd, rfl⟩⟩) | (go_at_call 21; (with_reducible refine (L2_near.calls k _ _ l0_1 true _ ?side1 ?side2 A29.out).mono ?_); (case side1 => repeat (first | exact (Kd.C_below HR0_1.out pw) | (with_reducible refine Kd.C_alloc ?_ _) | (with_reducible refine Kd.C_drewN ?_ _) | (with_reducible refine Kd.C_drew ?_))); (case side2 => exact HC0_1.out); rintro e w' ⟨rfl, ⟨nd, rfl⟩⟩) | (go_at_call 21; (with_reducible refine (L2_near.calls k _ _ l1_1 t375 _ ?side1 ?side2 A31.out).mono ?_); (case side1 => repeat (first | exact (Kd.C_below HR1_1.out pw) | (with_reducible refine Kd.C_alloc ?_ _) | (with_reducible refine Kd.C_drewN ?_ _) | (with_reducible refine Kd.C_drew ?_))); (case side2 => exact HC1_1.out); rintro e w' ⟨rfl, ⟨nd, rfl⟩⟩))
     go_meet
     case rel => exact ⟨_, (!t375), pr, H', ⟨by first | omega | exact Nat.le_refl _⟩, ⟨pk⟩, ⟨pk⟩, ⟨pw⟩⟩
   replace c30 := Bool.eq_false_iff.mpr c30
   subst c30
   have H1 : (L2_ZoneSound.j0 k l2 a3 a4 a5 true true a0_0 l0_1 a1_0 l1_1) = some r := by rw [if_neg (show ¬ (false = true) by decide)] at H; exact H
   clear H
   have H := H1
   clear H1
   as_aux_lemma =>
    have H' := am H
    clear H
    have hnb35 := NB370_371.out
    have hnc35 := NB371_370.out
    have hcz36_0 : w11.cell? ⟨gb370, 0, none⟩ = some (.int .i64 a0_0) := bc BK370 0
    have hcz36_1 : w11.cell? ⟨gb370, 1, none⟩ = some (.slice A0_1 l0_1.length c0_1) := bc BK370 1
    have hfz36_0 := blk_frozen BK370.out 0
    have hfz36_1 := blk_frozen BK370.out 1
    have hcz37_0 : w11.cell? ⟨gb371, 0, none⟩ = some (.int .i64 a1_0) := bc BK371 0
    have hcz37_1 : w11.cell? ⟨gb371, 1, none⟩ = some (.slice A1_1 l1_1.length c1_1) := bc BK371 1
    have hfz37_0 := blk_frozen BK371.out 0
    have hfz37_1 := blk_frozen BK371.out 1
    go_wp2_with (first | (go_at_call 37; (with_reducible refine (R2_Far.calls a5 1048576 false _ A24.out).mono ?_); rintro e w' ⟨rfl, ⟨nd, rfl⟩⟩) | (go_at_call 21; (with_reducible refine (L2_near.calls k _ _ l0_1 false _ ?side1 ?side2 A29.out).mono ?_); (case side1 => repeat (first | exact (Kd.C_below HR0_1.out pw) | (with_reducible refine Kd.C_alloc ?_ _) | (with_reducible refine Kd.C_drewN ?_ _) | (with_reducible refine Kd.C_drew ?_))); (case side2 => exact HC0_1.out); rintro e w' ⟨rfl, ⟨nd, rfl⟩⟩))
    go_meet
    case rel => exact ⟨_, (true), pr, H', ⟨by first | omega | exact Nat.le_refl _⟩, ⟨pk⟩, ⟨pk⟩, ⟨pw⟩⟩
  replace c12 := Bool.eq_false_iff.mpr c12
  subst c12
  have H1 : (L2_ZoneSound.j0 k l2 a3 a4 a5 false true a0_0 l0_1 a1_0 l1_1) = some r := by rw [if_neg (show ¬ (false = true) by decide)] at H; exact H
  clear H
  have H := H1
  clear H1
  as_aux_lemma =>
   have H' := am H
   clear H
   go_wp2
   go_meet
   case rel => exact ⟨_, (true), pr, H', ⟨by first | omega | exact Nat.le_refl _⟩, ⟨pk⟩, ⟨pk⟩, ⟨pw⟩⟩
 clear HC8
 try clear c1
 try clear c2
 try clear p2
 try clear c3
 try clear c12
 try clear c13
 try clear c13b0
 try clear c13b1
 try clear c14
 try clear c16
 try clear c16b0
 try clear c16b1
 try clear c17
 try clear c20
 try clear c20b0
 try clear c20b1
 try clear c21
 try clear c25
 try clear c26
 try clear c30
 try clear c32
 try clear c35
 try clear hcz15_0
 try clear hcz15_1
 try clear hcz18_0
 try clear hcz18_1
 try clear hcz19_0
 try clear hcz19_1
 try clear hcz22_0
 try clear hcz22_1
 try clear hcz23_0
 try clear hcz23_1
 try clear hcz27_0
 try clear hcz27_1
 try clear hcz28_0
 try clear hcz28_1
 try clear hcz33_0
 try clear hcz33_1
 try clear hcz34_0
 try clear hcz34_1
 try clear hcz36_0
 try clear hcz36_1
 try clear hcz37_0
 try clear hcz37_1
 try clear hfz15_0
 try clear hfz15_1
 try clear hfz18_0
 try clear hfz18_1
 try clear hfz19_0
 try clear hfz19_1
 try clear hfz22_0
 try clear hfz22_1
 try clear hfz23_0
 try clear hfz23_1
 try clear hfz27_0
 try clear hfz27_1
 try clear hfz28_0
 try clear hfz28_1
 try clear hfz33_0
 try clear hfz33_1
 try clear hfz34_0
 try clear hfz34_1
 try clear hfz36_0
 try clear hfz36_1
 try clear hfz37_0
 try clear hfz37_1
 obtain ⟨kq, x57_7, rfl, HA, HJ7, BK370, BK371, HB⟩ := hcut
 cases kq with
 | zero => exact absurd HA.out (by simp [L2_ZoneSound.j0])
 | succ kj7 =>
  have H := HA.out
  clear HA
  simp only [L2_ZoneSound.j0] at H
  by_cases c38 : x57_7 = true
  ·subst c38
   have H1 : (some t372) = some r := by rw [if_pos rfl] at H; exact H
   clear H
   have H := H1
   clear H1
   as_aux_lemma =>
    obtain rfl := Option.some.inj H
    go_wp2
    go_ret
    exact ⟨pe, pw⟩
  replace c38 := Bool.eq_false_iff.mpr c38
  subst c38
  have H1 : ((L2_zoneOf.f kj7 a0_0 l0_1).bind fun bt376 => ((L2_ints.f l2).bind fun t380 => ((zone_Has.f bt376.1 bt376.2 t380).bind fun bt383 => (if bt383.2.isNone = true then (if bt383.1 = true then (if a3 < 1 then (L2_ZoneSound.j1 kj7 l2 a3 a4 a5 true a0_0 l0_1 a1_0 l1_1) else (if a3 > a0_0 then (L2_ZoneSound.j1 kj7 l2 a3 a4 a5 true a0_0 l0_1 a1_0 l1_1) else (if a4 < 0 then (L2_ZoneSound.j1 kj7 l2 a3 a4 a5 true a0_0 l0_1 a1_0 l1_1) else (L2_ZoneSound.j1 kj7 l2 a3 a4 a5 (decide (a4 > a0_0)) a0_0 l0_1 a1_0 l1_1)))) else (L2_ZoneSound.j1 kj7 l2 a3 a4 a5 true a0_0 l0_1 a1_0 l1_1)) else (L2_ZoneSound.j1 kj7 l2 a3 a4 a5 true a0_0 l0_1 a1_0 l1_1))))) = some r := by rw [if_neg (show ¬ (false = true) by decide)] at H; exact H
  clear H
  have H := H1
  clear H1
  replace H := Option.bind_eq_some_iff.mp H
  obtain ⟨⟨t376, t377⟩, A390, H⟩ := H
  replace H : ((L2_ints.f l2).bind fun t380 => ((zone_Has.f t376 t377 t380).bind fun bt383 => (if bt383.2.isNone = true then (if bt383.1 = true then (if a3 < 1 then (L2_ZoneSound.j1 kj7 l2 a3 a4 a5 true a0_0 l0_1 a1_0 l1_1) else (if a3 > a0_0 then (L2_ZoneSound.j1 kj7 l2 a3 a4 a5 true a0_0 l0_1 a1_0 l1_1) else (if a4 < 0 then (L2_ZoneSound.j1 kj7 l2 a3 a4 a5 true a0_0 l0_1 a1_0 l1_1) else (L2_ZoneSound.j1 kj7 l2 a3 a4 a5 (decide (a4 > a0_0)) a0_0 l0_1 a1_0 l1_1)))) else (L2_ZoneSound.j1 kj7 l2 a3 a4 a5 true a0_0 l0_1 a1_0 l1_1)) else (L2_ZoneSound.j1 kj7 l2 a3 a4 a5 true a0_0 l0_1 a1_0 l1_1)))) = some r := H
  have A39 := am A390
  clear A390
  replace H := Option.bind_eq_some_iff.mp H
  obtain ⟨t380, A400, H⟩ := H
  replace H : ((zone_Has.f t376 t377 t380).bind fun bt383 => (if bt383.2.isNone = true then (if bt383.1 = true then (if a3 < 1 then (L2_ZoneSound.j1 kj7 l2 a3 a4 a5 true a0_0 l0_1 a1_0 l1_1) else (if a3 > a0_0 then (L2_ZoneSound.j1 kj7 l2 a3 a4 a5 true a0_0 l0_1 a1_0 l1_1) else (if a4 < 0 then (L2_ZoneSound.j1 kj7 l2 a3 a4 a5 true a0_0 l0_1 a1_0 l1_1) else (L2_ZoneSound.j1 kj7 l2 a3 a4 a5 (decide (a4 > a0_0)) a0_0 l0_1 a1_0 l1_1)))) else (L2_ZoneSound.j1 kj7 l2 a3 a4 a5 true a0_0 l0_1 a1_0 l1_1)) else (L2_ZoneSound.j1 kj7 l2 a3 a4 a5 true a0_0 l0_1 a1_0 l1_1))) = some r := H
  have A40 := am A400
  clear A400
  replace H := Option.bind_eq_some_iff.mp H
  obtain ⟨⟨t383, t384⟩, A410, H⟩ := H
  replace H : (if t384.isNone = true then (if t383 = true then (if a3 < 1 then (L2_ZoneSound.j1 kj7 l2 a3 a4 a5 true a0_0 l0_1 a1_0 l1_1) else (if a3 > a0_0 then (L2_ZoneSound.j1 kj7 l2 a3 a4 a5 true a0_0 l0_1 a1_0 l1_1) else (if a4 < 0 then (L2_ZoneSound.j1 kj7 l2 a3 a4 a5 true a0_0 l0_1 a1_0 l1_1) else (L2_ZoneSound.j1 kj7 l2 a3 a4 a5 (decide (a4 > a0_0)) a0_0 l0_1 a1_0 l1_1)))) else (L2_ZoneSound.j1 kj7 l2 a3 a4 a5 true a0_0 l0_1 a1_0 l1_1)) else (L2_ZoneSound.j1 kj7 l2 a3 a4 a5 true a0_0 l0_1 a1_0 l1_1)) = some r := H
  have A41 := am A410
  clear A410
  have HC42 := am H
  clear H
  have hnb43 := NB370_371.out
  have hnc43 := NB371_370.out
  have hcz44_0 : wc.cell? ⟨gb370, 0, none⟩ = some (.int .i64 a0_0) := bc BK370 0
  have hcz44_1 : wc.cell? ⟨gb370, 1, none⟩ = some (.slice A0_1 l0_1.length c0_1) := bc BK370 1
  have hfz44_0 := blk_frozen BK370.out 0
  have hfz44_1 := blk_frozen BK370.out 1
  go_upto_region 5 with (first | ((with_reducible refine gate_callee (f := 23) rfl ?_); refine goesL_ (some 61) rfl rfl Tryd.func23 kk rfl #[.agg #[.int .i64 a0_0, .slice A0_1 l0_1.length c0_1]] rfl (by (try simp only [List.map_toArray, List.map_cons, List.map_nil]); first | done | rfl | (simp only [List.length_drop, List.length_take]; rfl)) ?_; (with_reducible refine (L2_zoneOf.calls kj7 a0_0 _ _ l0_1 t376 t377 _ ?side1 ?side2 A39.out).mono ?_); (case side1 => repeat (first | exact (Kd.C_below HR0_1.out HB.out) | (with_reducible refine Kd.C_alloc ?_ _) | (with_reducible refine Kd.C_drewN ?_ _) | (with_reducible refine Kd.C_drew ?_))); (case side2 => exact HC0_1.out); rintro e w45 ⟨v378, rfl, ho0, hb⟩; refine ⟨_, rfl, ?_⟩; have n0_ := am (Kd.R_lower ho0 (below_size pw)); have n1_ := bb BK370 hb; have n2_ := bb BK371 hb; have n3_ := am (below_step pw hb); clear BK370; clear BK371; clear HB; have HO379 := n0_; have BK370 := n1_; have BK371 := n2_; have HB := n3_; clear n0_ n1_ n2_ n3_; (try clear hb); (try clear hb2); (try clear hk); (try clear hi); (try clear ho0)) | ((with_reducible refine gate_callee (f := 28) rfl ?_); refine goesL_ (some 63) rfl rfl Tryd.func28 kk rfl #[.slice A2 l2.length c2] rfl (by (try simp only [List.map_toArray, List.map_cons, List.map_nil]); first | done | rfl | (simp only [List.length_drop, List.length_take]; rfl)) ?_; (with_reducible refine (L2_ints.calls _ _ l2 t380 _ ?side1 ?side2 A40.out).mono ?_); (case side1 => repeat (first | exact (Kd.C_below HR2.out HB.out) | (with_reducible refine Kd.C_alloc ?_ _) | (with_reducible refine Kd.C_drewN ?_ _) | (with_reducible refine Kd.C_drew ?_))); (case side2 => exact HC2.out); rintro e w46 ⟨v381, rfl, ho0, hb⟩; refine ⟨_, rfl, ?_⟩; have n0_ := am (Kd.R_below (by (with_reducible repeat (first | apply Kd.R_alloc | apply Kd.R_drewN | apply Kd.R_drew)); exact HO379.out) hb); have n1_ := am (Kd.R_lower ho0 (below_size pw)); have n2_ := bb BK370 hb; have n3_ := bb BK371 hb; have n4_ := am (below_step pw hb); clear HO379; clear BK370; clear BK371; clear HB; have HO379 := n0_; have HO382 := n1_; have BK370 := n2_; have BK371 := n3_; have HB := n4_; clear n0_ n1_ n2_ n3_ n4_; (try clear hb); (try clear hb2); (try clear hk); (try clear hi); (try clear ho0); obtain ⟨Ao47, co47, eo47⟩ := Kd.R_slice HO379.out; subst eo47; obtain ⟨Ao48, co48, eo48⟩ := Kd.R_slice HO382.out; subst eo48) | ((with_reducible refine gate_callee (f := 53) rfl ?_); refine goesL_ (some 64) rfl rfl Tryd.func53 kk rfl #[.agg #[.int .i64 t376, .slice Ao47 t377.length co47], .slice Ao48 t380.length co48] rfl (by (try simp only [List.map_toArray, List.map_cons, List.map_nil]); first | done | rfl | (simp only [List.length_drop, List.length_take]; rfl)) ?_; (with_reducible refine (zone_Has.calls t376 _ _ t377 _ _ t380 t383 t384 _ ?side1 ?side2 ?side3 ?side4 A41.out (am (ErrAt.below hE2.out pw)).out (am (ErrAt.below hE3.out pw)).out).mono ?_); (case side1 => repeat (first | exact (Kd.R_reads' HO379.out).2.2 | (with_reducible refine Kd.C_alloc ?_ _) | (with_reducible refine Kd.C_drewN ?_ _) | (with_reducible refine Kd.C_drew ?_))); (case side2 => exact (Kd.R_reads' HO379.out).2.1); (case side3 => repeat (first | exact (Kd.R_reads' HO382.out).2.2 | (with_reducible refine Kd.C_alloc ?_ _) | (with_reducible refine Kd.C_drewN ?_ _) | (with_reducible refine Kd.C_drew ?_))); (case side4 => exact (Kd.R_reads' HO382.out).2.1); rintro e w49 ⟨rfl, hb⟩; refine ⟨_, rfl, ?_⟩; have n0_ := am (Kd.R_below (by (with_reducible repeat (first | apply Kd.R_alloc | apply Kd.R_drewN | apply Kd.R_drew)); exact HO379.out) hb); have n1_ := am (Kd.R_below (by (with_reducible repeat (first | apply Kd.R_alloc | apply Kd.R_drewN | apply Kd.R_drew)); exact HO382.out) hb); have n2_ := bb BK370 hb; have n3_ := bb BK371 hb; have n4_ := am (below_step pw hb); clear HO379; clear HO382; clear BK370; clear BK371; clear HB; have HO379 := n0_; have HO382 := n1_; have BK370 := n2_; have BK371 := n3_; have HB := n4_; clear n0_ n1_ n2_ n3_ n4_; (try clear hb); (try clear hb2); (try clear hk); (try clear hi); (try simp only [errW_none, errW_some])))
  (try simp only [Act.put, List.setIfInBounds_toArray, List.set_cons_zero, List.set_cons_succ])
  go_cut [92] (fun v92 wc => ∃ (kq : Nat) (x92_41 : Bool), v92 = .bool x92_41 ∧ Aside0 (L2_ZoneSound.j1 kq l2 a3 a4 a5 x92_41 a0_0 l0_1 a1_0 l1_1 = some r) ∧ Aside0 (kq ≤ kj7) ∧ Aside0 (wc.heap[gb370]? = some (.cells #[.int .i64 a0_0, (.slice A0_1 l0_1.length c0_1)] 33 (0, 0))) ∧ Aside0 (wc.heap[gb371]? = some (.cells #[.int .i64 a1_0, (.slice A1_1 l1_1.length c1_1)] 33 (0, 0))) ∧ Aside0 (Below w.heap.size w wc))
  case first =>
   have H := HC42.out
   clear HC42
   rcases t384 with _ | q385
   ·have H1 : (if t383 = true then (if a3 < 1 then (L2_ZoneSound.j1 kj7 l2 a3 a4 a5 true a0_0 l0_1 a1_0 l1_1) else (if a3 > a0_0 then (L2_ZoneSound.j1 kj7 l2 a3 a4 a5 true a0_0 l0_1 a1_0 l1_1) else (if a4 < 0 then (L2_ZoneSound.j1 kj7 l2 a3 a4 a5 true a0_0 l0_1 a1_0 l1_1) else (L2_ZoneSound.j1 kj7 l2 a3 a4 a5 (decide (a4 > a0_0)) a0_0 l0_1 a1_0 l1_1)))) else (L2_ZoneSound.j1 kj7 l2 a3 a4 a5 true a0_0 l0_1 a1_0 l1_1)) = some r := by rw [if_pos (show (none : Option Int).isNone = true by rfl)] at H; exact H
    clear H
    have H := H1
    clear H1
    try simp only [errW_none, errW_some]
    by_cases c50 : t383 = true
    ·subst c50
     have H1 : (if a3 < 1 then (L2_ZoneSound.j1 kj7 l2 a3 a4 a5 true a0_0 l0_1 a1_0 l1_1) else (if a3 > a0_0 then (L2_ZoneSound.j1 kj7 l2 a3 a4 a5 true a0_0 l0_1 a1_0 l1_1) else (if a4 < 0 then (L2_ZoneSound.j1 kj7 l2 a3 a4 a5 true a0_0 l0_1 a1_0 l1_1) else (L2_ZoneSound.j1 kj7 l2 a3 a4 a5 (decide (a4 > a0_0)) a0_0 l0_1 a1_0 l1_1)))) = some r := by rw [if_pos rfl] at H; exact H
     clear H
     have H := H1
     clear H1
     by_cases c51 : a3 < 1
     ·rw [if_pos c51] at H
      have c51b0 : decide (a3 < 1) = true := decide_eq_true c51
      clear c51
      (first | rw [c51b0] | (simp only [i64_w, i32_w]; rw [c51b0]) | skip)
      as_aux_lemma =>
       have H' := am H
       clear H
       go_wp2
       go_meet
       case rel => exact ⟨_, (true), pr, H', ⟨by have := HJ7.out; first | omega | exact Nat.le_refl _⟩, ⟨pk⟩, ⟨pk⟩, ⟨pw⟩⟩
     rw [if_neg c51] at H
     have c51b0 : decide (a3 < 1) = false := decide_eq_false c51
     clear c51
     (first | rw [c51b0] | (simp only [i64_w, i32_w]; rw [c51b0]) | skip)
     by_cases c52 : a3 > a0_0
     ·rw [if_pos c52] at H
      have c52b0 : decide (a0_0 < a3) = true := decide_eq_true c52
      clear c52
      as_aux_lemma =>
       have H' := am H
       clear H
       have hnb53 := NB370_371.out
       have hnc53 := NB371_370.out
       have hcz54_0 : w49.cell? ⟨gb370, 0, none⟩ = some (.int .i64 a0_0) := bc BK370 0
       have hcz54_1 : w49.cell? ⟨gb370, 1, none⟩ = some (.slice A0_1 l0_1.length c0_1) := bc BK370 1
       have hfz54_0 := blk_frozen BK370.out 0
       have hfz54_1 := blk_frozen BK370.out 1
       go_wp2
       go_meet
       case rel => exact ⟨_, (true), pr, H', ⟨by have := HJ7.out; first | omega | exact Nat.le_refl _⟩, ⟨pk⟩, ⟨pk⟩, ⟨pw⟩⟩
     rw [if_neg c52] at H
     have c52b0 : decide (a0_0 < a3) = false := decide_eq_false c52
     clear c52
     by_cases c55 : a4 < 0
     ·rw [if_pos c55] at H
      have c55b0 : decide (a4 < 0) = true := decide_eq_true c55
      clear c55
      as_aux_lemma =>
       have H' := am H
       clear H
       have hnb56 := NB370_371.out
       have hnc56 := NB371_370.out
       have hcz57_0 : w49.cell? ⟨gb370, 0, none⟩ = some (.int .i64 a0_0) := bc BK370 0
       have hcz57_1 : w49.cell? ⟨gb370, 1, none⟩ = some (.slice A0_1 l0_1.length c0_1) := bc BK370 1
       have hfz57_0 := blk_frozen BK370.out 0
       have hfz57_1 := blk_frozen BK370.out 1
       go_wp2
       go_meet
       case rel => exact ⟨_, (true), pr, H', ⟨by have := HJ7.out; first | omega | exact Nat.le_refl _⟩, ⟨pk⟩, ⟨pk⟩, ⟨pw⟩⟩
     rw [if_neg c55] at H
     have c55b0 : decide (a4 < 0) = false := decide_eq_false c55
     clear c55
     as_aux_lemma =>
      have H' := am H
      clear H
      have hnb58 := NB370_371.out
      have hnc58 := NB371_370.out
      have hcz59_0 : w49.cell? ⟨gb370, 0, none⟩ = some (.int .i64 a0_0) := bc BK370 0
      have hcz59_1 : w49.cell? ⟨gb370, 1, none⟩ = some (.slice A0_1 l0_1.length c0_1) := bc BK370 1
      have hfz59_0 := blk_frozen BK370.out 0
      have hfz59_1 := blk_frozen BK370.out 1
      go_wp2
      go_meet
      case rel => exact ⟨_, (decide (a4 > a0_0)), pr, H', ⟨by have := HJ7.out; first | omega | exact Nat.le_refl _⟩, ⟨pk⟩, ⟨pk⟩, ⟨pw⟩⟩
    replace c50 := Bool.eq_false_iff.mpr c50
    subst c50
    have H1 : (L2_ZoneSound.j1 kj7 l2 a3 a4 a5 true a0_0 l0_1 a1_0 l1_1) = some r := by rw [if_neg (show ¬ (false = true) by decide)] at H; exact H
    clear H
    have H := H1
    clear H1
    as_aux_lemma =>
     have H' := am H
     clear H
     go_wp2
     go_meet
     case rel => exact ⟨_, (true), pr, H', ⟨by have := HJ7.out; first | omega | exact Nat.le_refl _⟩, ⟨pk⟩, ⟨pk⟩, ⟨pw⟩⟩
   have H1 : (L2_ZoneSound.j1 kj7 l2 a3 a4 a5 true a0_0 l0_1 a1_0 l1_1) = some r := by rw [if_neg (show ¬ (some q385).isNone = true by simp)] at H; exact H
   clear H
   have H := H1
   clear H1
   try simp only [errW_none, errW_some]
   as_aux_lemma =>
    have H' := am H
    clear H
    go_wp2
    go_meet
    case rel => exact ⟨_, (true), pr, H', ⟨by have := HJ7.out; first | omega | exact Nat.le_refl _⟩, ⟨pk⟩, ⟨pk⟩, ⟨pw⟩⟩
  clear HC42
  try clear c1
  try clear c2
  try clear p2
  try clear c3
  try clear q3
  try clear c4
  try clear c5
  try clear c12
  try clear c13
  try clear c13b0
  try clear c13b1
  try clear c14
  try clear c16
  try clear c16b0
  try clear c16b1
  try clear c17
  try clear c20
  try clear c20b0
  try clear c20b1
  try clear c21
  try clear c23
  try clear c25
  try clear c26
  try clear c28
  try clear c30
  try clear c32
  try clear c35
  try clear c38
  try clear q38
  try clear c43
  try clear c50
  try clear c51
  try clear c51b0
  try clear c52
  try clear c52b0
  try clear c53
  try clear c55
  try clear c55b0
  try clear c56
  try clear c58
  try clear hcz15_0
  try clear hcz15_1
  try clear hcz18_0
  try clear hcz18_1
  try clear hcz19_0
  try clear hcz19_1
  try clear hcz22_0
  try clear hcz22_1
  try clear hcz23_0
  try clear hcz23_1
  try clear hcz27_0
  try clear hcz27_1
  try clear hcz28_0
  try clear hcz28_1
  try clear hcz33_0
  try clear hcz33_1
  try clear hcz34_0
  try clear hcz34_1
  try clear hcz36_0
  try clear hcz36_1
  try clear hcz37_0
  try clear hcz37_1
  try clear hcz44_0
  try clear hcz44_1
  try clear hcz54_0
  try clear hcz54_1
  try clear hcz57_0
  try clear hcz57_1
  try clear hcz59_0
  try clear hcz59_1
  try clear hfz15_0
  try clear hfz15_1
  try clear hfz18_0
  try clear hfz18_1
  try clear hfz19_0
  try clear hfz19_1
  try clear hfz22_0
  try clear hfz22_1
  try clear hfz23_0
  try clear hfz23_1
  try clear hfz27_0
  try clear hfz27_1
  try clear hfz28_0
  try clear hfz28_1
  try clear hfz33_0
  try clear hfz33_1
  try clear hfz34_0
  try clear hfz34_1
  try clear hfz36_0
  try clear hfz36_1
  try clear hfz37_0
  try clear hfz37_1
  try clear hfz44_0
  try clear hfz44_1
  try clear hfz54_0
  try clear hfz54_1
  try clear hfz57_0
  try clear hfz57_1
  try clear hfz59_0
  try clear hfz59_1
  try clear p2
  try clear q385
  obtain ⟨kq, x92_41, rfl, HA, HJ41, BK370, BK371, HB⟩ := hcut
  cases kq with
  | zero => exact absurd HA.out (by simp [L2_ZoneSound.j1])
  | succ kj41 =>
   have H := HA.out
   clear HA
   simp only [L2_ZoneSound.j1] at H
   by_cases c60 : x92_41 = true
   ·subst c60
    have H1 : (some true) = some r := by rw [if_pos rfl] at H; exact H
    clear H
    have H := H1
    clear H1
    as_aux_lemma =>
     obtain rfl := Option.some.inj H
     go_wp2
     go_ret
     exact ⟨pe, pw⟩
   replace c60 := Bool.eq_false_iff.mpr c60
   subst c60
   have H1 : (L2_ZoneSound.l0 kj41 l2 a3 a4 a5 0 a0_0 l0_1 a1_0 l1_1) = some r := by rw [if_neg (show ¬ (false = true) by decide)] at H; exact H
   clear H
   have H := H1
   clear H1
   have H' := am H
   clear H
   go_wp2
   go_loopg [16] kj41 (fun kq v16 w' => ∃ (x16_3 : Int), v16 = .int .i64 x16_3 ∧ Aside0 (L2_ZoneSound.l0 kq l2 a3 a4 a5 x16_3 a0_0 l0_1 a1_0 l1_1 = some r) ∧ Aside0 (kq ≤ kj41) ∧ Aside0 (w'.heap[gb370]? = some (.cells #[.int .i64 a0_0, (.slice A0_1 l0_1.length c0_1)] 33 (0, 0))) ∧ Aside0 (w'.heap[gb371]? = some (.cells #[.int .i64 a1_0, (.slice A1_1 l1_1.length c1_1)] 33 (0, 0))) ∧ Aside0 (Below w.heap.size w w'))
   case atStart => exact ⟨(0), pr, H', ⟨Nat.le_refl _⟩, ⟨pk⟩, ⟨pk⟩, ⟨pw⟩⟩
   case round =>
    clear H'
    try clear c1
    try clear c2
    try clear p2
    try clear c3
    try clear q3
    try clear c4
    try clear c5
    try clear c6
    try clear c12
    try clear c13
    try clear c13b0
    try clear c13b1
    try clear c14
    try clear c16
    try clear c16b0
    try clear c16b1
    try clear c17
    try clear c20
    try clear c20b0
    try clear c20b1
    try clear c21
    try clear c23
    try clear c25
    try clear c26
    try clear c28
    try clear c30
    try clear c32
    try clear c35
    try clear c38
    try clear q38
    try clear c43
    try clear c50
    try clear c51
    try clear c51b0
    try clear c52
    try clear c52b0
    try clear c53
    try clear c55
    try clear c55b0
    try clear c56
    try clear c58
    try clear c60
    try clear hcz15_0
    try clear hcz15_1
    try clear hcz18_0
    try clear hcz18_1
    try clear hcz19_0
    try clear hcz19_1
    try clear hcz22_0
    try clear hcz22_1
    try clear hcz23_0
    try clear hcz23_1
    try clear hcz27_0
    try clear hcz27_1
    try clear hcz28_0
    try clear hcz28_1
    try clear hcz33_0
    try clear hcz33_1
    try clear hcz34_0
    try clear hcz34_1
    try clear hcz36_0
    try clear hcz36_1
    try clear hcz37_0
    try clear hcz37_1
    try clear hcz44_0
    try clear hcz44_1
    try clear hcz54_0
    try clear hcz54_1
    try clear hcz57_0
    try clear hcz57_1
    try clear hcz59_0
    try clear hcz59_1
    try clear hfz15_0
    try clear hfz15_1
    try clear hfz18_0
    try clear hfz18_1
    try clear hfz19_0
    try clear hfz19_1
    try clear hfz22_0
    try clear hfz22_1
    try clear hfz23_0
    try clear hfz23_1
    try clear hfz27_0
    try clear hfz27_1
    try clear hfz28_0
    try clear hfz28_1
    try clear hfz33_0
    try clear hfz33_1
    try clear hfz34_0
    try clear hfz34_1
    try clear hfz36_0
    try clear hfz36_1
    try clear hfz37_0
    try clear hfz37_1
    try clear hfz44_0
    try clear hfz44_1
    try clear hfz54_0
    try clear hfz54_1
    try clear hfz57_0
    try clear hfz57_1
    try clear hfz59_0
    try clear hfz59_1
    try clear p2
    try clear q3
    try clear q38
    try clear q385
    obtain ⟨x16_3, rfl, HA, HK3, BK370, BK371, HB⟩ := hrel
    cases gk with
    | zero => exact absurd HA.out (by simp [L2_ZoneSound.l0])
    | succ k3 =>
     have H := HA.out
     clear HA
     simp only [L2_ZoneSound.l0] at H
     by_cases c61 : x16_3 < (l2.length : Int)
     ·rw [if_pos c61] at H
      have c61b0 : decide (x16_3 < (l2.length : Int)) = true := decide_eq_true c61
      clear c61
      by_cases c62 : 0 ≤ x16_3
      ·rw [if_pos c62] at H
       have c62b0 : decide (0 ≤ x16_3) = true := decide_eq_true c62
       clear c62
       replace H := Option.bind_eq_some_iff.mp H
       obtain ⟨t387, A630, H⟩ := H
       replace H : (if t387 = true then (some true) else (L2_ZoneSound.l0 k3 l2 a3 a4 a5 (wrap64 (x16_3 + 1)) a0_0 l0_1 a1_0 l1_1)) = some r := H
       have A63 := am A630
       clear A630
       by_cases c64 : t387 = true
       ·subst c64
        have H1 : (some true) = some r := by rw [if_pos rfl] at H; exact H
        clear H
        have H := H1
        clear H1
        as_aux_lemma =>
         obtain rfl := Option.some.inj H
         have p386 : 0 ≤ (x16_3 : Int) := of_decide_eq_true (by first | (with_reducible assumption) | assumption)
         have q386 : x16_3 < (l2.length : Int) := of_decide_eq_true (by first | (with_reducible assumption) | assumption)
         obtain ⟨ad386, e386, hx386_0⟩ := Kd.at_int HR2.out x16_3 p386 q386
         cases e386
         replace hx386_0 := (HB.out.cell (World.block_lt_of_cell? w _ hx386_0)).trans hx386_0
         replace p386 := eq_true p386
         replace q386 := eq_true q386
         go_wp2_with (first | ((with_reducible refine gate_callee (f := 37) rfl ?_); refine goesL_ (some 103) rfl rfl Tryd.func37 kk rfl #[.int .i64 (rd l2 x16_3), .int .i64 1048576] rfl (by (try simp only [List.map_toArray, List.map_cons, List.map_nil]); first | done | rfl | (simp only [List.length_drop, List.length_take]; rfl)) ?_; (with_reducible refine (R2_Far.calls (rd l2 x16_3) 1048576 true _ A63.out).mono ?_); rintro e w' ⟨rfl, ⟨nd, rfl⟩⟩; refine ⟨_, rfl, ?_⟩))
         go_ret
         exact ⟨pe, pw⟩
       replace c64 := Bool.eq_false_iff.mpr c64
       subst c64
       have H1 : (L2_ZoneSound.l0 k3 l2 a3 a4 a5 (wrap64 (x16_3 + 1)) a0_0 l0_1 a1_0 l1_1) = some r := by rw [if_neg (show ¬ (false = true) by decide)] at H; exact H
       clear H
       have H := H1
       clear H1
       as_aux_lemma =>
        have H' := am H
        clear H
        have p386 : 0 ≤ (x16_3 : Int) := of_decide_eq_true (by first | (with_reducible assumption) | assumption)
        have q386 : x16_3 < (l2.length : Int) := of_decide_eq_true (by first | (with_reducible assumption) | assumption)
        obtain ⟨ad386, e386, hx386_0⟩ := Kd.at_int HR2.out x16_3 p386 q386
        cases e386
        replace hx386_0 := (HB.out.cell (World.block_lt_of_cell? w _ hx386_0)).trans hx386_0
        replace p386 := eq_true p386
        replace q386 := eq_true q386
        go_wp2_with (first | ((with_reducible refine gate_callee (f := 37) rfl ?_); refine goesL_ (some 103) rfl rfl Tryd.func37 kk rfl #[.int .i64 (rd l2 x16_3), .int .i64 1048576] rfl (by (try simp only [List.map_toArray, List.map_cons, List.map_nil]); first | done | rfl | (simp only [List.length_drop, List.length_take]; rfl)) ?_; (with_reducible refine (R2_Far.calls (rd l2 x16_3) 1048576 false _ A63.out).mono ?_); rintro e w' ⟨rfl, ⟨nd, rfl⟩⟩; refine ⟨_, rfl, ?_⟩))
        go_roundg k3
        case measure => have := HJ7.out; have := HJ41.out; have := HK3.out; omega
        case rel => exact ⟨(wrap64 (x16_3 + 1)), pr, H', ⟨by have := HJ7.out; have := HJ41.out; have := HK3.out; omega⟩, ⟨pk⟩, ⟨pk⟩, ⟨pw⟩⟩
      rw [if_neg c62] at H
      exact absurd H (by simp)
     rw [if_neg c61] at H
     have c61b0 : decide (x16_3 < (l2.length : Int)) = false := decide_eq_false c61
     clear c61
     replace H := Option.bind_eq_some_iff.mp H
     obtain ⟨⟨t388, t389⟩, A650, H⟩ := H
     replace H : ((zone_Forget.f t388 t389 a3).bind fun bt392 => (if bt392.2.2.2.isNone = true then (L2_ZoneSound.j3 k3 l2 a3 a4 a5 (!bt392.2.2.1) a0_0 l0_1 a1_0 l1_1 bt392.1 bt392.2.1) else (L2_ZoneSound.j3 k3 l2 a3 a4 a5 true a0_0 l0_1 a1_0 l1_1 bt392.1 bt392.2.1))) = some r := H
     have A65 := am A650
     clear A650
     replace H := Option.bind_eq_some_iff.mp H
     obtain ⟨⟨t392, t393, t396, t397⟩, A660, H⟩ := H
     replace H : (if t397.isNone = true then (L2_ZoneSound.j3 k3 l2 a3 a4 a5 (!t396) a0_0 l0_1 a1_0 l1_1 t392 t393) else (L2_ZoneSound.j3 k3 l2 a3 a4 a5 true a0_0 l0_1 a1_0 l1_1 t392 t393)) = some r := H
     have A66 := am A660
     clear A660
     have HC67 := am H
     clear H
     have hnb68 := NB370_371.out
     have hnc68 := NB371_370.out
     have hcz69_0 : wr.cell? ⟨gb370, 0, none⟩ = some (.int .i64 a0_0) := bc BK370 0
     have hcz69_1 : wr.cell? ⟨gb370, 1, none⟩ = some (.slice A0_1 l0_1.length c0_1) := bc BK370 1
     have hfz69_0 := blk_frozen BK370.out 0
     have hfz69_1 := blk_frozen BK370.out 1
     go_upto_region 13 with (first | ((with_reducible refine gate_callee (f := 23) rfl ?_); refine goesL_ (some 106) rfl rfl Tryd.func23 kk rfl #[.agg #[.int .i64 a0_0, .slice A0_1 l0_1.length c0_1]] rfl (by (try simp only [List.map_toArray, List.map_cons, List.map_nil]); first | done | rfl | (simp only [List.length_drop, List.length_take]; rfl)) ?_; (with_reducible refine (L2_zoneOf.calls k3 a0_0 _ _ l0_1 t388 t389 _ ?side1 ?side2 A65.out).mono ?_); (case side1 => repeat (first | exact (Kd.C_below HR0_1.out HB.out) | (with_reducible refine Kd.C_alloc ?_ _) | (with_reducible refine Kd.C_drewN ?_ _) | (with_reducible refine Kd.C_drew ?_))); (case side2 => exact HC0_1.out); rintro e w70 ⟨v390, rfl, ho0, hb⟩; refine ⟨_, rfl, ?_⟩; have n0_ := am (Kd.R_lower ho0 (below_size pw)); have n1_ := bb BK370 hb; have n2_ := bb BK371 hb; have n3_ := am (below_step pw hb); clear BK370; clear BK371; clear HB; have HO391 := n0_; have BK370 := n1_; have BK371 := n2_; have HB := n3_; clear n0_ n1_ n2_ n3_; (try clear hb); (try clear hb2); (try clear hk); (try clear hi); (try clear ho0); obtain ⟨Ao71, co71, eo71⟩ := Kd.R_slice HO391.out; subst eo71) | ((with_reducible refine gate_callee (f := 59) rfl ?_); refine goesL_ (some 108) rfl rfl Tryd.func59 kk rfl #[.agg #[.int .i64 t388, .slice Ao71 t389.length co71], .int .i64 a3] rfl (by (try simp only [List.map_toArray, List.map_cons, List.map_nil]); first | done | rfl | (simp only [List.length_drop, List.length_take]; rfl)) ?_; (with_reducible refine (zone_Forget.calls t388 _ _ t389 a3 t392 t393 t396 t397 _ ?side1 ?side2 A66.out (am (ErrAt.below hE2.out pw)).out (am (ErrAt.below hE3.out pw)).out).mono ?_); (case side1 => repeat (first | exact (Kd.R_reads' HO391.out).2.2 | (with_reducible refine Kd.C_alloc ?_ _) | (with_reducible refine Kd.C_drewN ?_ _) | (with_reducible refine Kd.C_drew ?_))); (case side2 => exact (Kd.R_reads' HO391.out).2.1); rintro e w72 ⟨v394, rfl, ho0, hb⟩; refine ⟨_, rfl, ?_⟩; have n0_ := am (Kd.R_elder' (by (with_reducible repeat (first | apply Kd.R_alloc | apply Kd.R_drewN | apply Kd.R_drew)); exact HO391.out) (Kd.R_base ho0) hb); have n1_ := am (Kd.R_lower (Kd.R_new' ho0 (Kd.R_lt (by (with_reducible repeat (first | apply Kd.R_alloc | apply Kd.R_drewN | apply Kd.R_drew)); exact HO391.out))) (below_size pw)); have n2_ := bb BK370 hb; have n3_ := bb BK371 hb; have n4_ := am (below_step pw hb); clear HO391; clear BK370; clear BK371; clear HB; have HO391 := n0_; have HO395 := n1_; have BK370 := n2_; have BK371 := n3_; have HB := n4_; clear n0_ n1_ n2_ n3_ n4_; (try clear hb); (try clear hb2); (try clear hk); (try clear hi); (try clear ho0); (try simp only [errW_none, errW_some])) | ((with_reducible refine gate_dst (N := 17) rfl ?_); (try (refine gate_guard (by rfl) ?_; dsimp only)); refine box_event ?hg (N := 17) ?hd (cs := #[.int .i64 0, .slice none 0 0]) (t := 37) ?hr ?_; (case hd => rfl); (case hg => rfl); (case hr => first | (go_simp; done) | (go_simp; rfl)); intro gb398 hg w73 hbox hb; have n0_ := am (Kd.R_below (by (with_reducible repeat (first | apply Kd.R_alloc | apply Kd.R_drewN | apply Kd.R_drew)); exact HO391.out) hb); have n1_ := am (Kd.R_below (by (with_reducible repeat (first | apply Kd.R_alloc | apply Kd.R_drewN | apply Kd.R_drew)); exact HO395.out) hb); have n2_ := bb BK370 hb; have n3_ := bb BK371 hb; have n4_ := am (below_step pw hb); have n5_ := am (hbox); have n6_ := am ((by rw [hg]; exact (below_size pw) : w.heap.size ≤ gb398)); have n7_ := am ((by rw [hg]; exact (below_size pw) : w.heap.size ≤ gb398)); have n8_ := am ((by rw [hg]; exact Nat.ne_of_lt (blk_lt pk) : gb370 ≠ gb398)); have n9_ := am ((by rw [hg]; exact Nat.ne_of_gt (blk_lt pk) : gb398 ≠ gb370)); have n10_ := am ((by rw [hg]; exact Nat.ne_of_lt (blk_lt pk) : gb371 ≠ gb398)); have n11_ := am ((by rw [hg]; exact Nat.ne_of_gt (blk_lt pk) : gb398 ≠ gb371)); clear HO391; clear HO395; clear BK370; clear BK371; clear HB; have HO391 := n0_; have HO395 := n1_; have BK370 := n2_; have BK371 := n3_; have HB := n4_; have BK398 := n5_; have GW398 := n6_; have GE398 := n7_; have NB370_398 := n8_; have NB398_370 := n9_; have NB371_398 := n10_; have NB398_371 := n11_; clear n0_ n1_ n2_ n3_ n4_ n5_ n6_ n7_ n8_ n9_ n10_ n11_; clear hb hbox hg; have hnb74 := NB398_370.out; have hnc74 := NB370_398.out; have hnb75 := NB398_371.out; have hnc75 := NB371_398.out; have hcz76_0 : w73.cell? ⟨gb398, 0, none⟩ = some (.int .i64 0) := bc BK398 0; have hcz76_1 : w73.cell? ⟨gb398, 1, none⟩ = some (.slice none 0 0) := bc BK398 1; have hfz76_0 := blk_frozen BK398.out 0; have hfz76_1 := blk_frozen BK398.out 1; obtain ⟨Ao77, co77, eo77⟩ := Kd.R_slice HO395.out; subst eo77))
     (try simp only [Act.put, List.setIfInBounds_toArray, List.set_cons_zero, List.set_cons_succ])
     go_cut [117] (fun v117 wc => ∃ (kq : Nat) (x117_66 : Bool), v117 = .bool x117_66 ∧ Aside0 (L2_ZoneSound.j3 kq l2 a3 a4 a5 x117_66 a0_0 l0_1 a1_0 l1_1 t392 t393 = some r) ∧ Aside0 (kq ≤ k3) ∧ Aside0 (Kd.R k42 42 wc w.heap.size (fun _ => True) (.slice Ao77 t393.length co77) t393) ∧ Aside0 (wc.heap[gb370]? = some (.cells #[.int .i64 a0_0, (.slice A0_1 l0_1.length c0_1)] 33 (0, 0))) ∧ Aside0 (wc.heap[gb371]? = some (.cells #[.int .i64 a1_0, (.slice A1_1 l1_1.length c1_1)] 33 (0, 0))) ∧ Aside0 (wc.heap[gb398]? = some (.cells #[.int .i64 t392, (.slice Ao77 t393.length co77)] 37 (0, 0))) ∧ Aside0 (Below w.heap.size w wc))
     case first =>
      have H := HC67.out
      clear HC67
      rcases t397 with _ | q399
      ·have H1 : (L2_ZoneSound.j3 k3 l2 a3 a4 a5 (!t396) a0_0 l0_1 a1_0 l1_1 t392 t393) = some r := by rw [if_pos (show (none : Option Int).isNone = true by rfl)] at H; exact H
       clear H
       have H := H1
       clear H1
       try simp only [errW_none, errW_some]
       as_aux_lemma =>
        have H' := am H
        clear H
        go_wp2
        go_meet
        case rel => exact ⟨_, (!t396), pr, H', ⟨by have := HJ7.out; have := HJ41.out; have := HK3.out; first | omega | exact Nat.le_refl _⟩, ⟨by (with_reducible repeat (first | apply Kd.R_alloc | apply Kd.R_drewN | apply Kd.R_drew)); exact Kd.R_mono (Kd.R_far (p := ⟨gb398, 1, none⟩) (Kd.R_far (p := ⟨gb398, 0, none⟩) (Kd.R_types HO395.out BK398.out (by decide)) (fun _ hk => hk.2) (.int .i64 t392)) (fun _ hk => hk.2) (.slice Ao77 t393.length co77)) (fun _ hk => trivial)⟩, ⟨by (with_reducible repeat (first | refine blk_drewN ?_ _ | refine blk_drew ?_ | refine blk_alloc ?_ _)); refine blk_far ?_ NB370_398.out _; (with_reducible repeat (first | refine blk_drewN ?_ _ | refine blk_drew ?_ | refine blk_alloc ?_ _)); refine blk_far ?_ NB370_398.out _; (with_reducible repeat (first | refine blk_drewN ?_ _ | refine blk_drew ?_ | refine blk_alloc ?_ _)); exact BK370.out⟩, ⟨by (with_reducible repeat (first | refine blk_drewN ?_ _ | refine blk_drew ?_ | refine blk_alloc ?_ _)); refine blk_far ?_ NB371_398.out _; (with_reducible repeat (first | refine blk_drewN ?_ _ | refine blk_drew ?_ | refine blk_alloc ?_ _)); refine blk_far ?_ NB371_398.out _; (with_reducible repeat (first | refine blk_drewN ?_ _ | refine blk_drew ?_ | refine blk_alloc ?_ _)); exact BK371.out⟩, ⟨by (with_reducible repeat (first | refine blk_drewN ?_ _ | refine blk_drew ?_ | refine blk_alloc ?_ _)); refine blk_put (cs := #[.int .i64 t392, .slice none 0 0]) ?_ 1 _ rfl; (with_reducible repeat (first | refine blk_drewN ?_ _ | refine blk_drew ?_ | refine blk_alloc ?_ _)); refine blk_put (cs := #[.int .i64 0, .slice none 0 0]) ?_ 0 _ rfl; (with_reducible repeat (first | refine blk_drewN ?_ _ | refine blk_drew ?_ | refine blk_alloc ?_ _)); exact BK398.out⟩, ⟨pw⟩⟩
      have H1 : (L2_ZoneSound.j3 k3 l2 a3 a4 a5 true a0_0 l0_1 a1_0 l1_1 t392 t393) = some r := by rw [if_neg (show ¬ (some q399).isNone = true by simp)] at H; exact H
      clear H
      have H := H1
      clear H1
      try simp only [errW_none, errW_some]
      as_aux_lemma =>
       have H' := am H
       clear H
       go_wp2
       go_meet
       case rel => exact ⟨_, (true), pr, H', ⟨by have := HJ7.out; have := HJ41.out; have := HK3.out; first | omega | exact Nat.le_refl _⟩, ⟨by (with_reducible repeat (first | apply Kd.R_alloc | apply Kd.R_drewN | apply Kd.R_drew)); exact Kd.R_mono (Kd.R_far (p := ⟨gb398, 1, none⟩) (Kd.R_far (p := ⟨gb398, 0, none⟩) (Kd.R_types HO395.out BK398.out (by decide)) (fun _ hk => hk.2) (.int .i64 t392)) (fun _ hk => hk.2) (.slice Ao77 t393.length co77)) (fun _ hk => trivial)⟩, ⟨by (with_reducible repeat (first | refine blk_drewN ?_ _ | refine blk_drew ?_ | refine blk_alloc ?_ _)); refine blk_far ?_ NB370_398.out _; (with_reducible repeat (first | refine blk_drewN ?_ _ | refine blk_drew ?_ | refine blk_alloc ?_ _)); refine blk_far ?_ NB370_398.out _; (with_reducible repeat (first | refine blk_drewN ?_ _ | refine blk_drew ?_ | refine blk_alloc ?_ _)); exact BK370.out⟩, ⟨by (with_reducible repeat (first | refine blk_drewN ?_ _ | refine blk_drew ?_ | refine blk_alloc ?_ _)); refine blk_far ?_ NB371_398.out _; (with_reducible repeat (first | refine blk_drewN ?_ _ | refine blk_drew ?_ | refine blk_alloc ?_ _)); refine blk_far ?_ NB371_398.out _; (with_reducible repeat (first | refine blk_drewN ?_ _ | refine blk_drew ?_ | refine blk_alloc ?_ _)); exact BK371.out⟩, ⟨by (with_reducible repeat (first | refine blk_drewN ?_ _ | refine blk_drew ?_ | refine blk_alloc ?_ _)); refine blk_put (cs := #[.int .i64 t392, .slice none 0 0]) ?_ 1 _ rfl; (with_reducible repeat (first | refine blk_drewN ?_ _ | refine blk_drew ?_ | refine blk_alloc ?_ _)); refine blk_put (cs := #[.int .i64 0, .slice none 0 0]) ?_ 0 _ rfl; (with_reducible repeat (first | refine blk_drewN ?_ _ | refine blk_drew ?_ | refine blk_alloc ?_ _)); exact BK398.out⟩, ⟨pw⟩⟩
     clear HC67
     try clear c1
     try clear c2
     try clear p2
     try clear c3
     try clear p3
     try clear q3
     try clear hx3
     try clear c4
     try clear c5
     try clear c6
     try clear p6
     try clear c7
     try clear c12
     try clear c13
     try clear c13b0
     try clear c13b1
     try clear c14
     try clear c16
     try clear c16b0
     try clear c16b1
     try clear c17
     try clear c20
     try clear c20b0
     try clear c20b1
     try clear c21
     try clear c23
     try clear c25
     try clear c26
     try clear c28
     try clear c30
     try clear c32
     try clear c35
     try clear c37
     try clear c38
     try clear p38
     try clear q38
     try clear hx38
     try clear q39
     try clear c43
     try clear c50
     try clear c51
     try clear c51b0
     try clear c52
     try clear c52b0
     try clear c53
     try clear c55
     try clear c55b0
     try clear c56
     try clear c58
     try clear c59
     try clear c60
     try clear c61
     try clear c61b0
     try clear c62
     try clear c62b0
     try clear c64
     try clear p64
     try clear c68
     try clear c74
     try clear c75
     try clear hcz15_0
     try clear hcz15_1
     try clear hcz18_0
     try clear hcz18_1
     try clear hcz19_0
     try clear hcz19_1
     try clear hcz22_0
     try clear hcz22_1
     try clear hcz23_0
     try clear hcz23_1
     try clear hcz27_0
     try clear hcz27_1
     try clear hcz28_0
     try clear hcz28_1
     try clear hcz33_0
     try clear hcz33_1
     try clear hcz34_0
     try clear hcz34_1
     try clear hcz36_0
     try clear hcz36_1
     try clear hcz37_0
     try clear hcz37_1
     try clear hcz44_0
     try clear hcz44_1
     try clear hcz54_0
     try clear hcz54_1
     try clear hcz57_0
     try clear hcz57_1
     try clear hcz59_0
     try clear hcz59_1
     try clear hcz69_0
     try clear hcz69_1
     try clear hcz76_0
     try clear hcz76_1
     try clear hfz15_0
     try clear hfz15_1
     try clear hfz18_0
     try clear hfz18_1
     try clear hfz19_0
     try clear hfz19_1
     try clear hfz22_0
     try clear hfz22_1
     try clear hfz23_0
     try clear hfz23_1
     try clear hfz27_0
     try clear hfz27_1
     try clear hfz28_0
     try clear hfz28_1
     try clear hfz33_0
     try clear hfz33_1
     try clear hfz34_0
     try clear hfz34_1
     try clear hfz36_0
     try clear hfz36_1
     try clear hfz37_0
     try clear hfz37_1
     try clear hfz44_0
     try clear hfz44_1
     try clear hfz54_0
     try clear hfz54_1
     try clear hfz57_0
     try clear hfz57_1
     try clear hfz59_0
     try clear hfz59_1
     try clear hfz69_0
     try clear hfz69_1
     try clear hfz76_0
     try clear hfz76_1
     try clear hx386_0
     try clear p2
     try clear p386
     try clear q3
     try clear q38
     try clear q385
     try clear q386
     try clear q399
     obtain ⟨kq, x117_66, rfl, HA, HJ66, HO_399001, BK370, BK371, BK398, HB⟩ := hcut
     cases kq with
     | zero => exact absurd HA.out (by simp [L2_ZoneSound.j3])
     | succ kj66 =>
      have H := HA.out
      clear HA
      simp only [L2_ZoneSound.j3] at H
      by_cases c78 : x117_66 = true
      ·subst c78
       have H1 : (none) = some r := by rw [if_pos rfl] at H; exact H
       clear H
       have H := H1
       clear H1
       exact absurd H (by simp)
      replace c78 := Bool.eq_false_iff.mpr c78
      subst c78
      have H1 : ((L2_ints.f l2).bind fun t400 => (if 0 ≤ (wrap64 (a3 - 1)) then (if (wrap64 (a3 - 1)) < (t400.length : Int) then ((some (t400.set ((wrap64 (a3 - 1)) : Int).toNat a5 : List Int)).bind fun y403 => ((zone_Has.f t392 t393 y403).bind fun bt404 => (if bt404.2.isNone = true then (L2_ZoneSound.j4 kj66 l2 a3 a4 a5 y403 (!bt404.1) a0_0 l0_1 a1_0 l1_1) else (L2_ZoneSound.j4 kj66 l2 a3 a4 a5 y403 true a0_0 l0_1 a1_0 l1_1)))) else (none)) else (none))) = some r := by rw [if_neg (show ¬ (false = true) by decide)] at H; exact H
      clear H
      have H := H1
      clear H1
      replace H := Option.bind_eq_some_iff.mp H
      obtain ⟨t400, A790, H⟩ := H
      replace H : (if 0 ≤ (wrap64 (a3 - 1)) then (if (wrap64 (a3 - 1)) < (t400.length : Int) then ((some (t400.set ((wrap64 (a3 - 1)) : Int).toNat a5 : List Int)).bind fun y403 => ((zone_Has.f t392 t393 y403).bind fun bt404 => (if bt404.2.isNone = true then (L2_ZoneSound.j4 kj66 l2 a3 a4 a5 y403 (!bt404.1) a0_0 l0_1 a1_0 l1_1) else (L2_ZoneSound.j4 kj66 l2 a3 a4 a5 y403 true a0_0 l0_1 a1_0 l1_1)))) else (none)) else (none)) = some r := H
      have A79 := am A790
      clear A790
      obtain ⟨ji80, hji80⟩ : ∃ j_ : Int, (wrap64 (a3 - 1)) = j_ := ⟨_, rfl⟩
      replace H : (if 0 ≤ (ji80) then (if (ji80) < (t400.length : Int) then ((some (t400.set ((ji80) : Int).toNat a5 : List Int)).bind fun y403 => ((zone_Has.f t392 t393 y403).bind fun bt404 => (if bt404.2.isNone = true then (L2_ZoneSound.j4 kj66 l2 a3 a4 a5 y403 (!bt404.1) a0_0 l0_1 a1_0 l1_1) else (L2_ZoneSound.j4 kj66 l2 a3 a4 a5 y403 true a0_0 l0_1 a1_0 l1_1)))) else (none)) else (none)) = some r := by first | (rw [hji80] at H; exact H) | (simp only [hji80] at H ⊢; exact H)
      (try rw [hji80] at A79)
      have hji80w : (IntKind.i64.wrap (a3 - 1)) = ji80 := (i64_w _).trans hji80
      by_cases c81 : 0 ≤ (ji80)
      ·rw [if_pos c81] at H
       have c81b0 : decide (0 ≤ (ji80)) = true := decide_eq_true c81
       clear c81
       by_cases c82 : (ji80) < (t400.length : Int)
       ·rw [if_pos c82] at H
        have c82b0 : decide ((ji80) < (t400.length : Int)) = true := decide_eq_true c82
        clear c82
        obtain ⟨y403, hy403⟩ : ∃ y_ : List Int, y_ = (t400.set ((ji80) : Int).toNat a5) := ⟨_, rfl⟩
        replace H : ((zone_Has.f t392 t393 y403).bind fun bt404 => (if bt404.2.isNone = true then (L2_ZoneSound.j4 kj66 l2 a3 a4 a5 y403 (!bt404.1) a0_0 l0_1 a1_0 l1_1) else (L2_ZoneSound.j4 kj66 l2 a3 a4 a5 y403 true a0_0 l0_1 a1_0 l1_1))) = some r := by first | (rw [hy403]; with_reducible exact H) | (have H2_ := (Option.bind_some _ _).symm.trans H; rw [hy403]; with_reducible exact H2_) | (have H2_ := (Option.bind_some _ _).symm.trans H; with_reducible exact H2_) | with_reducible exact H | (rw [hy403]; exact H) | exact H
        have Ny403 := am hy403
        clear hy403
        replace H := Option.bind_eq_some_iff.mp H
        obtain ⟨⟨t404, t405⟩, A840, H⟩ := H
        replace H : (if t405.isNone = true then (L2_ZoneSound.j4 kj66 l2 a3 a4 a5 y403 (!t404) a0_0 l0_1 a1_0 l1_1) else (L2_ZoneSound.j4 kj66 l2 a3 a4 a5 y403 true a0_0 l0_1 a1_0 l1_1)) = some r := H
        have A84 := am A840
        clear A840
        have HC85 := am H
        clear H
        go_upto_region 18 with (first | ((with_reducible refine gate_callee (f := 28) rfl ?_); refine goesL_ (some 119) rfl rfl Tryd.func28 kk rfl #[.slice A2 l2.length c2] rfl (by (try simp only [List.map_toArray, List.map_cons, List.map_nil]); first | done | rfl | (simp only [List.length_drop, List.length_take]; rfl)) ?_; (with_reducible refine (L2_ints.calls _ _ l2 t400 _ ?side1 ?side2 A79.out).mono ?_); (case side1 => repeat (first | exact (Kd.C_below HR2.out HB.out) | (with_reducible refine Kd.C_alloc ?_ _) | (with_reducible refine Kd.C_drewN ?_ _) | (with_reducible refine Kd.C_drew ?_))); (case side2 => exact HC2.out); rintro e w86 ⟨v401, rfl, ho0, hb⟩; refine ⟨_, rfl, ?_⟩; have n0_ := am (Kd.R_below (by (with_reducible repeat (first | apply Kd.R_alloc | apply Kd.R_drewN | apply Kd.R_drew)); exact HO_399001.out) hb); have n1_ := am (Kd.R_lower ho0 (below_size pw)); have n2_ := bb BK370 hb; have n3_ := bb BK371 hb; have n4_ := bb BK398 hb; have n5_ := am (below_step pw hb); clear HO_399001; clear BK370; clear BK371; clear BK398; clear HB; have HO_399001 := n0_; have HO402 := n1_; have BK370 := n2_; have BK371 := n3_; have BK398 := n4_; have HB := n5_; clear n0_ n1_ n2_ n3_ n4_ n5_; (try clear hb); (try clear hb2); (try clear hk); (try clear hi); (try clear ho0); have p83 : 0 ≤ ((ji80) : Int) := of_decide_eq_true (by first | (with_reducible assumption) | assumption); have q83 : ((ji80) : Int) < ((t400.length : Int) : Int) := of_decide_eq_true (by first | (with_reducible assumption) | assumption); obtain ⟨go83, co83, eo83, gb83, gl83, cl83, HG83⟩ := Kd.R_form HO402.out (by omega); (first | cases eo83 | (injection eo83 with ea_ en_ ec_; (first | subst ea_ | (injection ea_ with ea_; subst ea_)); subst ec_; clear en_)); have GB83 := am gb83; have GG83 := am HG83; clear gb83 gl83 HG83; obtain ⟨hx83_0, hf83_0⟩ := Kd.R_celln 0 HO402.out ((ji80) : Int) p83 q83; replace p83 := eq_true p83; replace q83 := eq_true q83; obtain ⟨hy87_, hz87_⟩ := Kd.R_celln 0 HO402.out ((ji80) : Int) (of_decide_eq_true (by first | (with_reducible assumption) | assumption)) (of_decide_eq_true (by first | (with_reducible assumption) | assumption)); have HP87 := Kd.R_putg HO402.out ((ji80) : Int) a5) | ((with_reducible refine gate_store (t := 3) (p := 124) rfl ?_); refine store_event (t := 3) (p := 124) (v := ?vo_w88) (w1 := (w86.setCell ⟨go83, ((ji80) : Int).toNat, none⟩ (.int .i64 a5))) ?hg ?ho ?hn ?hr ?_; (case ho => rfl); (case hg => rfl); (case hn => rfl); (case hr => first | (go_simp; done) | (go_simp; rfl)); intro w88 hw; have hg : w86.grownBy w88 (some go83) := (by rw [hw]; exact HP87.2); have hp_ : Kd.R (Kd.int .i64) 3 w88 w.heap.size (fun _ => True) (.slice (some ⟨go83, 0, none⟩) t400.length co83) y403 := (by rw [hw, Ny403.out]; exact HP87.1); clear HP87; have n0_ := am (Kd.R_over' (v := (.slice (some ⟨go83, 0, none⟩) t400.length co83)) (by (with_reducible repeat (first | apply Kd.R_alloc | apply Kd.R_drewN | apply Kd.R_drew)); exact HO_399001.out) (Kd.R_typed HO402.out) (by decide) hg); have n1_ := am (blk_grown (g := gb370) (o := .cells #[.int .i64 a0_0, .slice A0_1 l0_1.length c0_1] 33 (0, 0)) pk hg (Kd.R_ne HO402.out BK370.out (by decide))); have n2_ := am (blk_grown (g := gb371) (o := .cells #[.int .i64 a1_0, .slice A1_1 l1_1.length c1_1] 33 (0, 0)) pk hg (Kd.R_ne HO402.out BK371.out (by decide))); have n3_ := am (blk_grown (g := gb398) (o := .cells #[.int .i64 t392, .slice Ao77 t393.length co77] 37 (0, 0)) pk hg (Kd.R_ne HO402.out BK398.out (by decide))); have n4_ := am (hp_); have n5_ := am ((by rw [hw]; exact below_set (HB.out) GB83.out : Below w.heap.size w w88)); clear HO_399001; clear BK370; clear BK371; clear BK398; clear HO402; clear HB; have HO_399001 := n0_; have BK370 := n1_; have BK371 := n2_; have BK398 := n3_; have HO402 := n4_; have HB := n5_; clear n0_ n1_ n2_ n3_ n4_ n5_; clear hg hw hp_; have hnb89 := NB398_370.out; have hnc89 := NB370_398.out; have hnb90 := NB398_371.out; have hnc90 := NB371_398.out; have hcz91_0 : w88.cell? ⟨gb398, 0, none⟩ = some (.int .i64 t392) := bc BK398 0; have hcz91_1 : w88.cell? ⟨gb398, 1, none⟩ = some (.slice Ao77 t393.length co77) := bc BK398 1; have hfz91_0 := blk_frozen BK398.out 0; have hfz91_1 := blk_frozen BK398.out 1) | ((with_reducible refine gate_callee (f := 53) rfl ?_); refine goesL_ (some 128) rfl rfl Tryd.func53 kk rfl #[.agg #[.int .i64 t392, .slice Ao77 t393.length co77], .slice (some ⟨go83, 0, none⟩) y403.length co83] rfl (by (try simp only [List.map_toArray, List.map_cons, List.map_nil]); first | done | (rw [show y403.length = t400.length from (Kd.R_reads' HO402.out).1.symm] <;> rfl) | rfl | (simp only [List.length_drop, List.length_take]; rfl)) ?_; (with_reducible refine (zone_Has.calls t392 _ _ t393 _ _ y403 t404 t405 _ ?side1 ?side2 ?side3 ?side4 A84.out (am (ErrAt.below hE2.out pw)).out (am (ErrAt.below hE3.out pw)).out).mono ?_); (case side1 => repeat (first | exact (Kd.R_reads' HO_399001.out).2.2 | (with_reducible refine Kd.C_alloc ?_ _) | (with_reducible refine Kd.C_drewN ?_ _) | (with_reducible refine Kd.C_drew ?_))); (case side2 => exact (Kd.R_reads' HO_399001.out).2.1); (case side3 => repeat (first | exact (Kd.R_reads' HO402.out).2.2 | (with_reducible refine Kd.C_alloc ?_ _) | (with_reducible refine Kd.C_drewN ?_ _) | (with_reducible refine Kd.C_drew ?_))); (case side4 => rw [show y403.length = t400.length from (Kd.R_reads' HO402.out).1.symm]; exact (Kd.R_reads' HO402.out).2.1); rintro e w92 ⟨rfl, hb⟩; refine ⟨_, rfl, ?_⟩; have n0_ := am (Kd.R_below (by (with_reducible repeat (first | apply Kd.R_alloc | apply Kd.R_drewN | apply Kd.R_drew)); exact HO_399001.out) hb); have n1_ := am (Kd.R_below (by (with_reducible repeat (first | apply Kd.R_alloc | apply Kd.R_drewN | apply Kd.R_drew)); exact HO402.out) hb); have n2_ := bb BK370 hb; have n3_ := bb BK371 hb; have n4_ := bb BK398 hb; have n5_ := am (below_step pw hb); clear HO_399001; clear HO402; clear BK370; clear BK371; clear BK398; clear HB; have HO_399001 := n0_; have HO402 := n1_; have BK370 := n2_; have BK371 := n3_; have BK398 := n4_; have HB := n5_; clear n0_ n1_ n2_ n3_ n4_ n5_; (try clear hb); (try clear hb2); (try clear hk); (try clear hi); (try simp only [errW_none, errW_some])))
        (try simp only [Act.put, List.setIfInBounds_toArray, List.set_cons_zero, List.set_cons_succ])
        go_cut [136] (fun v136 wc => ∃ (kq : Nat) (x136_84 : Bool), v136 = .bool x136_84 ∧ Aside0 (L2_ZoneSound.j4 kq l2 a3 a4 a5 y403 x136_84 a0_0 l0_1 a1_0 l1_1 = some r) ∧ Aside0 (kq ≤ kj66) ∧ Aside0 (Kd.R (Kd.int .i64) 3 wc w.heap.size (fun _ => True) (.slice (some ⟨go83, 0, none⟩) t400.length co83) y403) ∧ Aside0 (Kd.R k42 42 wc w.heap.size (fun _ => True) (.slice Ao77 t393.length co77) t393) ∧ Aside0 (wc.heap[gb370]? = some (.cells #[.int .i64 a0_0, (.slice A0_1 l0_1.length c0_1)] 33 (0, 0))) ∧ Aside0 (wc.heap[gb371]? = some (.cells #[.int .i64 a1_0, (.slice A1_1 l1_1.length c1_1)] 33 (0, 0))) ∧ Aside0 (wc.heap[gb398]? = some (.cells #[.int .i64 t392, (.slice Ao77 t393.length co77)] 37 (0, 0))) ∧ Aside0 (Below w.heap.size w wc))
        case first =>
         have H := HC85.out
         clear HC85
         rcases t405 with _ | q406
         ·have H1 : (L2_ZoneSound.j4 kj66 l2 a3 a4 a5 y403 (!t404) a0_0 l0_1 a1_0 l1_1) = some r := by rw [if_pos (show (none : Option Int).isNone = true by rfl)] at H; exact H
          clear H
          have H := H1
          clear H1
          try simp only [errW_none, errW_some]
          as_aux_lemma =>
           have H' := am H
           clear H
           go_wp2
           go_meet
           case rel => exact ⟨_, (!t404), pr, H', ⟨by have := HJ7.out; have := HJ41.out; have := HK3.out; have := HJ66.out; first | omega | exact Nat.le_refl _⟩, ⟨by (with_reducible repeat (first | apply Kd.R_alloc | apply Kd.R_drewN | apply Kd.R_drew)); exact HO402.out⟩, ⟨by (with_reducible repeat (first | apply Kd.R_alloc | apply Kd.R_drewN | apply Kd.R_drew)); exact HO_399001.out⟩, ⟨pk⟩, ⟨pk⟩, ⟨pk⟩, ⟨pw⟩⟩
         have H1 : (L2_ZoneSound.j4 kj66 l2 a3 a4 a5 y403 true a0_0 l0_1 a1_0 l1_1) = some r := by rw [if_neg (show ¬ (some q406).isNone = true by simp)] at H; exact H
         clear H
         have H := H1
         clear H1
         try simp only [errW_none, errW_some]
         as_aux_lemma =>
          have H' := am H
          clear H
          go_wp2
          go_meet
          case rel => exact ⟨_, (true), pr, H', ⟨by have := HJ7.out; have := HJ41.out; have := HK3.out; have := HJ66.out; first | omega | exact Nat.le_refl _⟩, ⟨by (with_reducible repeat (first | apply Kd.R_alloc | apply Kd.R_drewN | apply Kd.R_drew)); exact HO402.out⟩, ⟨by (with_reducible repeat (first | apply Kd.R_alloc | apply Kd.R_drewN | apply Kd.R_drew)); exact HO_399001.out⟩, ⟨pk⟩, ⟨pk⟩, ⟨pk⟩, ⟨pw⟩⟩
        clear HC85
        try clear c1
        try clear c2
        try clear p2
        try clear c3
        try clear p3
        try clear q3
        try clear hx3
        try clear c4
        try clear q4
        try clear c5
        try clear c6
        try clear p6
        try clear c7
        try clear c8
        try clear p8
        try clear q8
        try clear hx8
        try clear hf8
        try clear c9
        try clear c12
        try clear c13
        try clear c13b0
        try clear c13b1
        try clear c14
        try clear c16
        try clear c16b0
        try clear c16b1
        try clear c17
        try clear c20
        try clear c20b0
        try clear c20b1
        try clear c21
        try clear c23
        try clear c25
        try clear c26
        try clear c28
        try clear c30
        try clear c32
        try clear c35
        try clear c37
        try clear c38
        try clear p38
        try clear q38
        try clear hx38
        try clear q39
        try clear q40
        try clear c43
        try clear c50
        try clear c51
        try clear c51b0
        try clear c52
        try clear c52b0
        try clear c53
        try clear c55
        try clear c55b0
        try clear c56
        try clear c58
        try clear c59
        try clear c60
        try clear c61
        try clear c61b0
        try clear c62
        try clear c62b0
        try clear c64
        try clear p64
        try clear c68
        try clear c74
        try clear c75
        try clear c78
        try clear c81
        try clear c81b0
        try clear c82
        try clear c82b0
        try clear p83
        try clear q83
        try clear hx83
        try clear hf83
        try clear c89
        try clear c90
        try clear hcz15_0
        try clear hcz15_1
        try clear hcz18_0
        try clear hcz18_1
        try clear hcz19_0
        try clear hcz19_1
        try clear hcz22_0
        try clear hcz22_1
        try clear hcz23_0
        try clear hcz23_1
        try clear hcz27_0
        try clear hcz27_1
        try clear hcz28_0
        try clear hcz28_1
        try clear hcz33_0
        try clear hcz33_1
        try clear hcz34_0
        try clear hcz34_1
        try clear hcz36_0
        try clear hcz36_1
        try clear hcz37_0
        try clear hcz37_1
        try clear hcz44_0
        try clear hcz44_1
        try clear hcz54_0
        try clear hcz54_1
        try clear hcz57_0
        try clear hcz57_1
        try clear hcz59_0
        try clear hcz59_1
        try clear hcz69_0
        try clear hcz69_1
        try clear hcz76_0
        try clear hcz76_1
        try clear hcz91_0
        try clear hcz91_1
        try clear hfz15_0
        try clear hfz15_1
        try clear hfz18_0
        try clear hfz18_1
        try clear hfz19_0
        try clear hfz19_1
        try clear hfz22_0
        try clear hfz22_1
        try clear hfz23_0
        try clear hfz23_1
        try clear hfz27_0
        try clear hfz27_1
        try clear hfz28_0
        try clear hfz28_1
        try clear hfz33_0
        try clear hfz33_1
        try clear hfz34_0
        try clear hfz34_1
        try clear hfz36_0
        try clear hfz36_1
        try clear hfz37_0
        try clear hfz37_1
        try clear hfz44_0
        try clear hfz44_1
        try clear hfz54_0
        try clear hfz54_1
        try clear hfz57_0
        try clear hfz57_1
        try clear hfz59_0
        try clear hfz59_1
        try clear hfz69_0
        try clear hfz69_1
        try clear hfz76_0
        try clear hfz76_1
        try clear hfz91_0
        try clear hfz91_1
        try clear hx386_0
        try clear hx83_0
        try clear p2
        try clear p3
        try clear p38
        try clear p386
        try clear p6
        try clear p64
        try clear p83
        try clear q3
        try clear q38
        try clear q385
        try clear q386
        try clear q39
        try clear q399
        try clear q406
        try clear q83
        obtain ⟨kq, x136_84, rfl, HA, HJ84, HO_19, HO_399001, BK370, BK371, BK398, HB⟩ := hcut
        have hl19_84 := (Kd.R_reads' HO_19.out).1
        rw [hl19_84] at HO_19
        (try simp only [hl19_84])
        (try simp only [hl19_84] at BK370)
        (try simp only [hl19_84] at BK371)
        (try simp only [hl19_84] at BK398)
        (try simp only [hl19_84] at HO_399001)
        cases kq with
        | zero => exact absurd HA.out (by simp [L2_ZoneSound.j4])
        | succ kj84 =>
         have H := HA.out
         clear HA
         simp only [L2_ZoneSound.j4] at H
         by_cases c93 : x136_84 = true
         ·subst c93
          have H1 : (none) = some r := by rw [if_pos rfl] at H; exact H
          clear H
          have H := H1
          clear H1
          exact absurd H (by simp)
         replace c93 := Bool.eq_false_iff.mpr c93
         subst c93
         have H1 : ((L2_zoneOf.f kj84 a0_0 l0_1).bind fun bt407 => ((zone_Assign.f bt407.1 bt407.2 a3 a4 a5).bind fun bt411 => (if bt411.2.2.2.isNone = true then (L2_ZoneSound.j5 kj84 l2 a3 a4 a5 y403 (!bt411.2.2.1) a0_0 l0_1 a1_0 l1_1 bt411.1 bt411.2.1) else (L2_ZoneSound.j5 kj84 l2 a3 a4 a5 y403 true a0_0 l0_1 a1_0 l1_1 bt411.1 bt411.2.1)))) = some r := by rw [if_neg (show ¬ (false = true) by decide)] at H; exact H
         clear H
         have H := H1
         clear H1
         replace H := Option.bind_eq_some_iff.mp H
         obtain ⟨⟨t407, t408⟩, A940, H⟩ := H
         replace H : ((zone_Assign.f t407 t408 a3 a4 a5).bind fun bt411 => (if bt411.2.2.2.isNone = true then (L2_ZoneSound.j5 kj84 l2 a3 a4 a5 y403 (!bt411.2.2.1) a0_0 l0_1 a1_0 l1_1 bt411.1 bt411.2.1) else (L2_ZoneSound.j5 kj84 l2 a3 a4 a5 y403 true a0_0 l0_1 a1_0 l1_1 bt411.1 bt411.2.1))) = some r := H
         have A94 := am A940
         clear A940
         replace H := Option.bind_eq_some_iff.mp H
         obtain ⟨⟨t411, t412, t415, t416⟩, A950, H⟩ := H
         replace H : (if t416.isNone = true then (L2_ZoneSound.j5 kj84 l2 a3 a4 a5 y403 (!t415) a0_0 l0_1 a1_0 l1_1 t411 t412) else (L2_ZoneSound.j5 kj84 l2 a3 a4 a5 y403 true a0_0 l0_1 a1_0 l1_1 t411 t412)) = some r := H
         have A95 := am A950
         clear A950
         have HC96 := am H
         clear H
         have hnb97 := NB370_371.out
         have hnc97 := NB371_370.out
         have hnb98 := NB370_398.out
         have hnc98 := NB398_370.out
         have hcz99_0 : wc.cell? ⟨gb370, 0, none⟩ = some (.int .i64 a0_0) := bc BK370 0
         have hcz99_1 : wc.cell? ⟨gb370, 1, none⟩ = some (.slice A0_1 l0_1.length c0_1) := bc BK370 1
         have hfz99_0 := blk_frozen BK370.out 0
         have hfz99_1 := blk_frozen BK370.out 1
         go_upto_region 21 with (first | ((with_reducible refine gate_callee (f := 23) rfl ?_); refine goesL_ (some 139) rfl rfl Tryd.func23 kk rfl #[.agg #[.int .i64 a0_0, .slice A0_1 l0_1.length c0_1]] rfl (by (try simp only [List.map_toArray, List.map_cons, List.map_nil]); first | done | rfl | (simp only [List.length_drop, List.length_take]; rfl)) ?_; (with_reducible refine (L2_zoneOf.calls kj84 a0_0 _ _ l0_1 t407 t408 _ ?side1 ?side2 A94.out).mono ?_); (case side1 => repeat (first | exact (Kd.C_below HR0_1.out HB.out) | (with_reducible refine Kd.C_alloc ?_ _) | (with_reducible refine Kd.C_drewN ?_ _) | (with_reducible refine Kd.C_drew ?_))); (case side2 => exact HC0_1.out); rintro e w100 ⟨v409, rfl, ho0, hb⟩; refine ⟨_, rfl, ?_⟩; have n0_ := am (Kd.R_below (by (with_reducible repeat (first | apply Kd.R_alloc | apply Kd.R_drewN | apply Kd.R_drew)); exact HO_19.out) hb); have n1_ := am (Kd.R_elder' (by (with_reducible repeat (first | apply Kd.R_alloc | apply Kd.R_drewN | apply Kd.R_drew)); exact HO_399001.out) (Kd.R_base ho0) hb); have n2_ := am (Kd.R_lower (Kd.R_new' ho0 (Kd.R_lt (by (with_reducible repeat (first | apply Kd.R_alloc | apply Kd.R_drewN | apply Kd.R_drew)); exact HO_399001.out))) (below_size pw)); have n3_ := bb BK370 hb; have n4_ := bb BK371 hb; have n5_ := bb BK398 hb; have n6_ := am (below_step pw hb); clear HO_19; clear HO_399001; clear BK370; clear BK371; clear BK398; clear HB; have HO_19 := n0_; have HO_399001 := n1_; have HO410 := n2_; have BK370 := n3_; have BK371 := n4_; have BK398 := n5_; have HB := n6_; clear n0_ n1_ n2_ n3_ n4_ n5_ n6_; (try clear hb); (try clear hb2); (try clear hk); (try clear hi); (try clear ho0); obtain ⟨Ao101, co101, eo101⟩ := Kd.R_slice HO410.out; subst eo101) | ((with_reducible refine gate_callee (f := 60) rfl ?_); refine goesL_ (some 143) rfl rfl Tryd.func60 kk rfl #[.agg #[.int .i64 t407, .slice Ao101 t408.length co101], .int .i64 a3, .int .i64 a4, .int .i64 a5] rfl (by (try simp only [List.map_toArray, List.map_cons, List.map_nil]); first | done | rfl | (simp only [List.length_drop, List.length_take]; rfl)) ?_; (with_reducible refine (zone_Assign.calls t407 _ _ t408 a3 a4 a5 t411 t412 t415 t416 _ ?side1 ?side2 A95.out (am (ErrAt.below hE2.out pw)).out (am (ErrAt.below hE3.out pw)).out).mono ?_); (case side1 => repeat (first | exact (Kd.R_reads' HO410.out).2.2 | (with_reducible refine Kd.C_alloc ?_ _) | (with_reducible refine Kd.C_drewN ?_ _) | (with_reducible refine Kd.C_drew ?_))); (case side2 => exact (Kd.R_reads' HO410.out).2.1); rintro e w102 ⟨v413, rfl, ho0, hb⟩; refine ⟨_, rfl, ?_⟩; have n0_ := am (Kd.R_below (by (with_reducible repeat (first | apply Kd.R_alloc | apply Kd.R_drewN | apply Kd.R_drew)); exact HO_19.out) hb); have n1_ := am (Kd.R_elder' (by (with_reducible repeat (first | apply Kd.R_alloc | apply Kd.R_drewN | apply Kd.R_drew)); exact HO_399001.out) (Kd.R_base ho0) hb); have n2_ := am (Kd.R_elder' (by (with_reducible repeat (first | apply Kd.R_alloc | apply Kd.R_drewN | apply Kd.R_drew)); exact HO410.out) (Kd.R_base ho0) hb); have n3_ := am (Kd.R_lower (Kd.R_new' (Kd.R_new' ho0 (Kd.R_lt (by (with_reducible repeat (first | apply Kd.R_alloc | apply Kd.R_drewN | apply Kd.R_drew)); exact HO_399001.out))) (Kd.R_lt (by (with_reducible repeat (first | apply Kd.R_alloc | apply Kd.R_drewN | apply Kd.R_drew)); exact HO410.out))) (below_size pw)); have n4_ := bb BK370 hb; have n5_ := bb BK371 hb; have n6_ := bb BK398 hb; have n7_ := am (below_step pw hb); clear HO_19; clear HO_399001; clear HO410; clear BK370; clear BK371; clear BK398; clear HB; have HO_19 := n0_; have HO_399001 := n1_; have HO410 := n2_; have HO414 := n3_; have BK370 := n4_; have BK371 := n5_; have BK398 := n6_; have HB := n7_; clear n0_ n1_ n2_ n3_ n4_ n5_ n6_ n7_; (try clear hb); (try clear hb2); (try clear hk); (try clear hi); (try clear ho0); (try simp only [errW_none, errW_some])) | ((with_reducible refine gate_dst (N := 20) rfl ?_); (try (refine gate_guard (by rfl) ?_; dsimp only)); refine box_event ?hg (N := 20) ?hd (cs := #[.int .i64 0, .slice none 0 0]) (t := 37) ?hr ?_; (case hd => rfl); (case hg => rfl); (case hr => first | (go_simp; done) | (go_simp; rfl)); intro gb417 hg w103 hbox hb; have n0_ := am (Kd.R_below (by (with_reducible repeat (first | apply Kd.R_alloc | apply Kd.R_drewN | apply Kd.R_drew)); exact HO_19.out) hb); have n1_ := am (Kd.R_below (by (with_reducible repeat (first | apply Kd.R_alloc | apply Kd.R_drewN | apply Kd.R_drew)); exact HO_399001.out) hb); have n2_ := am (Kd.R_below (by (with_reducible repeat (first | apply Kd.R_alloc | apply Kd.R_drewN | apply Kd.R_drew)); exact HO410.out) hb); have n3_ := am (Kd.R_below (by (with_reducible repeat (first | apply Kd.R_alloc | apply Kd.R_drewN | apply Kd.R_drew)); exact HO414.out) hb); have n4_ := bb BK370 hb; have n5_ := bb BK371 hb; have n6_ := bb BK398 hb; have n7_ := am (below_step pw hb); have n8_ := am (hbox); have n9_ := am ((by rw [hg]; exact (below_size pw) : w.heap.size ≤ gb417)); have n10_ := am ((by rw [hg]; exact (below_size pw) : w.heap.size ≤ gb417)); have n11_ := am ((by rw [hg]; exact Nat.ne_of_lt (blk_lt pk) : gb370 ≠ gb417)); have n12_ := am ((by rw [hg]; exact Nat.ne_of_gt (blk_lt pk) : gb417 ≠ gb370)); have n13_ := am ((by rw [hg]; exact Nat.ne_of_lt (blk_lt pk) : gb371 ≠ gb417)); have n14_ := am ((by rw [hg]; exact Nat.ne_of_gt (blk_lt pk) : gb417 ≠ gb371)); have n15_ := am ((by rw [hg]; exact Nat.ne_of_lt (blk_lt pk) : gb398 ≠ gb417)); have n16_ := am ((by rw [hg]; exact Nat.ne_of_gt (blk_lt pk) : gb417 ≠ gb398)); clear HO_19; clear HO_399001; clear HO410; clear HO414; clear BK370; clear BK371; clear BK398; clear HB; have HO_19 := n0_; have HO_399001 := n1_; have HO410 := n2_; have HO414 := n3_; have BK370 := n4_; have BK371 := n5_; have BK398 := n6_; have HB := n7_; have BK417 := n8_; have GW417 := n9_; have GE417 := n10_; have NB370_417 := n11_; have NB417_370 := n12_; have NB371_417 := n13_; have NB417_371 := n14_; have NB398_417 := n15_; have NB417_398 := n16_; clear n0_ n1_ n2_ n3_ n4_ n5_ n6_ n7_ n8_ n9_ n10_ n11_ n12_ n13_ n14_ n15_ n16_; clear hb hbox hg; have hnb104 := NB417_370.out; have hnc104 := NB370_417.out; have hnb105 := NB417_371.out; have hnc105 := NB371_417.out; have hnb106 := NB417_398.out; have hnc106 := NB398_417.out; have hcz107_0 : w103.cell? ⟨gb417, 0, none⟩ = some (.int .i64 0) := bc BK417 0; have hcz107_1 : w103.cell? ⟨gb417, 1, none⟩ = some (.slice none 0 0) := bc BK417 1; have hfz107_0 := blk_frozen BK417.out 0; have hfz107_1 := blk_frozen BK417.out 1; obtain ⟨Ao108, co108, eo108⟩ := Kd.R_slice HO414.out; subst eo108))
         (try simp only [Act.put, List.setIfInBounds_toArray, List.set_cons_zero, List.set_cons_succ])
         go_cut [152] (fun v152 wc => ∃ (kq : Nat) (x152_95 : Bool), v152 = .bool x152_95 ∧ Aside0 (L2_ZoneSound.j5 kq l2 a3 a4 a5 y403 x152_95 a0_0 l0_1 a1_0 l1_1 t411 t412 = some r) ∧ Aside0 (kq ≤ kj84) ∧ Aside0 (Kd.R (Kd.int .i64) 3 wc w.heap.size (fun _ => True) (.slice (some ⟨go83, 0, none⟩) y403.length co83) y403) ∧ Aside0 (Kd.R k42 42 wc w.heap.size (fun k_ => some k_ ≠ ((.slice Ao108 t412.length co108) : Value).ownBlock) (.slice Ao77 t393.length co77) t393) ∧ Aside0 (Kd.R k42 42 wc w.heap.size (fun k_ => some k_ ≠ ((.slice Ao77 t393.length co77) : Value).ownBlock) (.slice Ao108 t412.length co108) t412) ∧ Aside0 (wc.heap[gb370]? = some (.cells #[.int .i64 a0_0, (.slice A0_1 l0_1.length c0_1)] 33 (0, 0))) ∧ Aside0 (wc.heap[gb371]? = some (.cells #[.int .i64 a1_0, (.slice A1_1 l1_1.length c1_1)] 33 (0, 0))) ∧ Aside0 (wc.heap[gb398]? = some (.cells #[.int .i64 t392, (.slice Ao77 t393.length co77)] 37 (0, 0))) ∧ Aside0 (wc.heap[gb417]? = some (.cells #[.int .i64 t411, (.slice Ao108 t412.length co108)] 37 (0, 0))) ∧ Aside0 (Below w.heap.size w wc))
         case first =>
          have H := HC96.out
          clear HC96
          rcases t416 with _ | q418
          ·have H1 : (L2_ZoneSound.j5 kj84 l2 a3 a4 a5 y403 (!t415) a0_0 l0_1 a1_0 l1_1 t411 t412) = some r := by rw [if_pos (show (none : Option Int).isNone = true by rfl)] at H; exact H
           clear H
           have H := H1
           clear H1
           try simp only [errW_none, errW_some]
           as_aux_lemma =>
            have H' := am H
            clear H
            go_wp2
            go_meet
            case rel => exact ⟨_, (!t415), pr, H', ⟨by have := HJ7.out; have := HJ41.out; have := HK3.out; have := HJ66.out; have := HJ84.out; first | omega | exact Nat.le_refl _⟩, ⟨by (try simp only [hl19_84]); (with_reducible repeat (first | apply Kd.R_alloc | apply Kd.R_drewN | apply Kd.R_drew)); exact Kd.R_mono (Kd.R_far (p := ⟨gb417, 1, none⟩) (Kd.R_far (p := ⟨gb417, 0, none⟩) (Kd.R_types HO_19.out BK417.out (by decide)) (fun _ hk => hk.2) (.int .i64 t411)) (fun _ hk => hk.2) (.slice Ao108 t412.length co108)) (fun _ hk => trivial)⟩, ⟨by (try simp only [hl19_84]); (with_reducible repeat (first | apply Kd.R_alloc | apply Kd.R_drewN | apply Kd.R_drew)); exact Kd.R_mono (Kd.R_far (p := ⟨gb417, 1, none⟩) (Kd.R_far (p := ⟨gb417, 0, none⟩) (Kd.R_types HO_399001.out BK417.out (by decide)) (fun _ hk => hk.2) (.int .i64 t411)) (fun _ hk => hk.2) (.slice Ao108 t412.length co108)) (fun _ hk => hk.1.2)⟩, ⟨by (try simp only [hl19_84]); (with_reducible repeat (first | apply Kd.R_alloc | apply Kd.R_drewN | apply Kd.R_drew)); exact Kd.R_mono (Kd.R_far (p := ⟨gb417, 1, none⟩) (Kd.R_far (p := ⟨gb417, 0, none⟩) (Kd.R_types HO414.out BK417.out (by decide)) (fun _ hk => hk.2) (.int .i64 t411)) (fun _ hk => hk.2) (.slice Ao108 t412.length co108)) (fun _ hk => hk.1.1.2)⟩, ⟨by (try simp only [hl19_84]); (with_reducible repeat (first | refine blk_drewN ?_ _ | refine blk_drew ?_ | refine blk_alloc ?_ _)); refine blk_far ?_ NB370_417.out _; (with_reducible repeat (first | refine blk_drewN ?_ _ | refine blk_drew ?_ | refine blk_alloc ?_ _)); refine blk_far ?_ NB370_417.out _; (with_reducible repeat (first | refine blk_drewN ?_ _ | refine blk_drew ?_ | refine blk_alloc ?_ _)); exact BK370.out⟩, ⟨by (try simp only [hl19_84]); (with_reducible repeat (first | refine blk_drewN ?_ _ | refine blk_drew ?_ | refine blk_alloc ?_ _)); refine blk_far ?_ NB371_417.out _; (with_reducible repeat (first | refine blk_drewN ?_ _ | refine blk_drew ?_ | refine blk_alloc ?_ _)); refine blk_far ?_ NB371_417.out _; (with_reducible repeat (first | refine blk_drewN ?_ _ | refine blk_drew ?_ | refine blk_alloc ?_ _)); exact BK371.out⟩, ⟨by (try simp only [hl19_84]); (with_reducible repeat (first | refine blk_drewN ?_ _ | refine blk_drew ?_ | refine blk_alloc ?_ _)); refine blk_far ?_ NB398_417.out _; (with_reducible repeat (first | refine blk_drewN ?_ _ | refine blk_drew ?_ | refine blk_alloc ?_ _)); refine blk_far ?_ NB398_417.out _; (with_reducible repeat (first | refine blk_drewN ?_ _ | refine blk_drew ?_ | refine blk_alloc ?_ _)); exact BK398.out⟩, ⟨by (try simp only [hl19_84]); (with_reducible repeat (first | refine blk_drewN ?_ _ | refine blk_drew ?_ | refine blk_alloc ?_ _)); refine blk_put (cs := #[.int .i64 t411, .slice none 0 0]) ?_ 1 _ rfl; (with_reducible repeat (first | refine blk_drewN ?_ _ | refine blk_drew ?_ | refine blk_alloc ?_ _)); refine blk_put (cs := #[.int .i64 0, .slice none 0 0]) ?_ 0 _ rfl; (with_reducible repeat (first | refine blk_drewN ?_ _ | refine blk_drew ?_ | refine blk_alloc ?_ _)); exact BK417.out⟩, ⟨pw⟩⟩
          have H1 : (L2_ZoneSound.j5 kj84 l2 a3 a4 a5 y403 true a0_0 l0_1 a1_0 l1_1 t411 t412) = some r := by rw [if_neg (show ¬ (some q418).isNone = true by simp)] at H; exact H
          clear H
          have H := H1
          clear H1
          try simp only [errW_none, errW_some]
          as_aux_lemma =>
           have H' := am H
           clear H
           go_wp2
           go_meet
           case rel => exact ⟨_, (true), pr, H', ⟨by have := HJ7.out; have := HJ41.out; have := HK3.out; have := HJ66.out; have := HJ84.out; first | omega | exact Nat.le_refl _⟩, ⟨by (try simp only [hl19_84]); (with_reducible repeat (first | apply Kd.R_alloc | apply Kd.R_drewN | apply Kd.R_drew)); exact Kd.R_mono (Kd.R_far (p := ⟨gb417, 1, none⟩) (Kd.R_far (p := ⟨gb417, 0, none⟩) (Kd.R_types HO_19.out BK417.out (by decide)) (fun _ hk => hk.2) (.int .i64 t411)) (fun _ hk => hk.2) (.slice Ao108 t412.length co108)) (fun _ hk => trivial)⟩, ⟨by (try simp only [hl19_84]); (with_reducible repeat (first | apply Kd.R_alloc | apply Kd.R_drewN | apply Kd.R_drew)); exact Kd.R_mono (Kd.R_far (p := ⟨gb417, 1, none⟩) (Kd.R_far (p := ⟨gb417, 0, none⟩) (Kd.R_types HO_399001.out BK417.out (by decide)) (fun _ hk => hk.2) (.int .i64 t411)) (fun _ hk => hk.2) (.slice Ao108 t412.length co108)) (fun _ hk => hk.1.2)⟩, ⟨by (try simp only [hl19_84]); (with_reducible repeat (first | apply Kd.R_alloc | apply Kd.R_drewN | apply Kd.R_drew)); exact Kd.R_mono (Kd.R_far (p := ⟨gb417, 1, none⟩) (Kd.R_far (p := ⟨gb417, 0, none⟩) (Kd.R_types HO414.out BK417.out (by decide)) (fun _ hk => hk.2) (.int .i64 t411)) (fun _ hk => hk.2) (.slice Ao108 t412.length co108)) (fun _ hk => hk.1.1.2)⟩, ⟨by (try simp only [hl19_84]); (with_reducible repeat (first | refine blk_drewN ?_ _ | refine blk_drew ?_ | refine blk_alloc ?_ _)); refine blk_far ?_ NB370_417.out _; (with_reducible repeat (first | refine blk_drewN ?_ _ | refine blk_drew ?_ | refine blk_alloc ?_ _)); refine blk_far ?_ NB370_417.out _; (with_reducible repeat (first | refine blk_drewN ?_ _ | refine blk_drew ?_ | refine blk_alloc ?_ _)); exact BK370.out⟩, ⟨by (try simp only [hl19_84]); (with_reducible repeat (first | refine blk_drewN ?_ _ | refine blk_drew ?_ | refine blk_alloc ?_ _)); refine blk_far ?_ NB371_417.out _; (with_reducible repeat (first | refine blk_drewN ?_ _ | refine blk_drew ?_ | refine blk_alloc ?_ _)); refine blk_far ?_ NB371_417.out _; (with_reducible repeat (first | refine blk_drewN ?_ _ | refine blk_drew ?_ | refine blk_alloc ?_ _)); exact BK371.out⟩, ⟨by (try simp only [hl19_84]); (with_reducible repeat (first | refine blk_drewN ?_ _ | refine blk_drew ?_ | refine blk_alloc ?_ _)); refine blk_far ?_ NB398_417.out _; (with_reducible repeat (first | refine blk_drewN ?_ _ | refine blk_drew ?_ | refine blk_alloc ?_ _)); refine blk_far ?_ NB398_417.out _; (with_reducible repeat (first | refine blk_drewN ?_ _ | refine blk_drew ?_ | refine blk_alloc ?_ _)); exact BK398.out⟩, ⟨by (try simp only [hl19_84]); (with_reducible repeat (first | refine blk_drewN ?_ _ | refine blk_drew ?_ | refine blk_alloc ?_ _)); refine blk_put (cs := #[.int .i64 t411, .slice none 0 0]) ?_ 1 _ rfl; (with_reducible repeat (first | refine blk_drewN ?_ _ | refine blk_drew ?_ | refine blk_alloc ?_ _)); refine blk_put (cs := #[.int .i64 0, .slice none 0 0]) ?_ 0 _ rfl; (with_reducible repeat (first | refine blk_drewN ?_ _ | refine blk_drew ?_ | refine blk_alloc ?_ _)); exact BK417.out⟩, ⟨pw⟩⟩
         clear HC96
         try clear c1
         try clear c2
         try clear p2
         try clear c3
         try clear p3
         try clear q3
         try clear hx3
         try clear c4
         try clear q4
         try clear c5
         try clear c6
         try clear p6
         try clear c7
         try clear c8
         try clear p8
         try clear q8
         try clear hx8
         try clear hf8
         try clear c9
         try clear c10
         try clear c12
         try clear c13
         try clear c13b0
         try clear c13b1
         try clear c14
         try clear c16
         try clear c16b0
         try clear c16b1
         try clear c17
         try clear c20
         try clear c20b0
         try clear c20b1
         try clear c21
         try clear c23
         try clear c25
         try clear c26
         try clear c28
         try clear c30
         try clear c32
         try clear c35
         try clear c37
         try clear c38
         try clear p38
         try clear q38
         try clear hx38
         try clear q39
         try clear q40
         try clear q41
         try clear c43
         try clear c50
         try clear c51
         try clear c51b0
         try clear c52
         try clear c52b0
         try clear c53
         try clear c55
         try clear c55b0
         try clear c56
         try clear c58
         try clear c59
         try clear c60
         try clear c61
         try clear c61b0
         try clear c62
         try clear c62b0
         try clear c64
         try clear p64
         try clear c68
         try clear c74
         try clear c75
         try clear c78
         try clear c81
         try clear c81b0
         try clear c82
         try clear c82b0
         try clear p83
         try clear q83
         try clear hx83
         try clear hf83
         try clear c89
         try clear c90
         try clear c93
         try clear c97
         try clear c98
         try clear c104
         try clear c105
         try clear c106
         try clear hcz107_0
         try clear hcz107_1
         try clear hcz15_0
         try clear hcz15_1
         try clear hcz18_0
         try clear hcz18_1
         try clear hcz19_0
         try clear hcz19_1
         try clear hcz22_0
         try clear hcz22_1
         try clear hcz23_0
         try clear hcz23_1
         try clear hcz27_0
         try clear hcz27_1
         try clear hcz28_0
         try clear hcz28_1
         try clear hcz33_0
         try clear hcz33_1
         try clear hcz34_0
         try clear hcz34_1
         try clear hcz36_0
         try clear hcz36_1
         try clear hcz37_0
         try clear hcz37_1
         try clear hcz44_0
         try clear hcz44_1
         try clear hcz54_0
         try clear hcz54_1
         try clear hcz57_0
         try clear hcz57_1
         try clear hcz59_0
         try clear hcz59_1
         try clear hcz69_0
         try clear hcz69_1
         try clear hcz76_0
         try clear hcz76_1
         try clear hcz91_0
         try clear hcz91_1
         try clear hcz99_0
         try clear hcz99_1
         try clear hfz107_0
         try clear hfz107_1
         try clear hfz15_0
         try clear hfz15_1
         try clear hfz18_0
         try clear hfz18_1
         try clear hfz19_0
         try clear hfz19_1
         try clear hfz22_0
         try clear hfz22_1
         try clear hfz23_0
         try clear hfz23_1
         try clear hfz27_0
         try clear hfz27_1
         try clear hfz28_0
         try clear hfz28_1
         try clear hfz33_0
         try clear hfz33_1
         try clear hfz34_0
         try clear hfz34_1
         try clear hfz36_0
         try clear hfz36_1
         try clear hfz37_0
         try clear hfz37_1
         try clear hfz44_0
         try clear hfz44_1
         try clear hfz54_0
         try clear hfz54_1
         try clear hfz57_0
         try clear hfz57_1
         try clear hfz59_0
         try clear hfz59_1
         try clear hfz69_0
         try clear hfz69_1
         try clear hfz76_0
         try clear hfz76_1
         try clear hfz91_0
         try clear hfz91_1
         try clear hfz99_0
         try clear hfz99_1
         try clear hx386_0
         try clear hx83_0
         try clear p2
         try clear p3
         try clear p38
         try clear p386
         try clear p6
         try clear p64
         try clear p8
         try clear p83
         try clear q3
         try clear q38
         try clear q385
         try clear q386
         try clear q39
         try clear q399
         try clear q4
         try clear q40
         try clear q406
         try clear q418
         try clear q8
         try clear q83
         obtain ⟨kq, x152_95, rfl, HA, HJ95, HO_19, HO_399001, HO_418001, BK370, BK371, BK398, BK417, HB⟩ := hcut
         cases kq with
         | zero => exact absurd HA.out (by simp [L2_ZoneSound.j5])
         | succ kj95 =>
          have H := HA.out
          clear HA
          simp only [L2_ZoneSound.j5] at H
          by_cases c109 : x152_95 = true
          ·subst c109
           have H1 : (none) = some r := by rw [if_pos rfl] at H; exact H
           clear H
           have H := H1
           clear H1
           exact absurd H (by simp)
          replace c109 := Bool.eq_false_iff.mpr c109
          subst c109
          have H1 : (if a4 > 0 then (if 0 ≤ (wrap64 (a4 - 1)) then (if (wrap64 (a4 - 1)) < (l2.length : Int) then (if 0 ≤ (wrap64 (a3 - 1)) then (if (wrap64 (a3 - 1)) < (y403.length : Int) then (L2_ZoneSound.j6 kj95 l2 (y403.set ((wrap64 (a3 - 1)) : Int).toNat (wrap64 ((rd l2 (wrap64 (a4 - 1))) + a5))) a0_0 l0_1 a1_0 l1_1 t411 t412) else (none)) else (none)) else (none)) else (none)) else (L2_ZoneSound.j6 kj95 l2 y403 a0_0 l0_1 a1_0 l1_1 t411 t412)) = some r := by rw [if_neg (show ¬ (false = true) by decide)] at H; exact H
          clear H
          have H := H1
          clear H1
          have HC110 := am H
          clear H
          go_upto_if 154 with (fail)
          go_cut [] (fun wc => ∃ (kq : Nat) (x19_109 : List Int), Aside0 (L2_ZoneSound.j6 kq l2 x19_109 a0_0 l0_1 a1_0 l1_1 t411 t412 = some r) ∧ Aside0 (kq ≤ kj95) ∧ Aside0 (Kd.R (Kd.int .i64) 3 wc w.heap.size (fun _ => True) (.slice (some ⟨go83, 0, none⟩) y403.length co83) x19_109) ∧ Aside0 (Kd.R k42 42 wc w.heap.size (fun k_ => some k_ ≠ ((.slice Ao108 t412.length co108) : Value).ownBlock) (.slice Ao77 t393.length co77) t393) ∧ Aside0 (Kd.R k42 42 wc w.heap.size (fun k_ => some k_ ≠ ((.slice Ao77 t393.length co77) : Value).ownBlock) (.slice Ao108 t412.length co108) t412) ∧ Aside0 (wc.heap[gb370]? = some (.cells #[.int .i64 a0_0, (.slice A0_1 l0_1.length c0_1)] 33 (0, 0))) ∧ Aside0 (wc.heap[gb371]? = some (.cells #[.int .i64 a1_0, (.slice A1_1 l1_1.length c1_1)] 33 (0, 0))) ∧ Aside0 (wc.heap[gb398]? = some (.cells #[.int .i64 t392, (.slice Ao77 t393.length co77)] 37 (0, 0))) ∧ Aside0 (wc.heap[gb417]? = some (.cells #[.int .i64 t411, (.slice Ao108 t412.length co108)] 37 (0, 0))) ∧ Aside0 (Below w.heap.size w wc))
          case first =>
           have H := HC110.out
           clear HC110
           by_cases c111 : a4 > 0
           ·rw [if_pos c111] at H
            have c111b0 : decide (0 < a4) = true := decide_eq_true c111
            clear c111
            (first | rw [c111b0] | (simp only [i64_w, i32_w]; rw [c111b0]) | skip)
            obtain ⟨ji112, hji112⟩ : ∃ j_ : Int, (wrap64 (a4 - 1)) = j_ := ⟨_, rfl⟩
            replace H : (if 0 ≤ (ji112) then (if (ji112) < (l2.length : Int) then (if 0 ≤ (wrap64 (a3 - 1)) then (if (wrap64 (a3 - 1)) < (y403.length : Int) then (L2_ZoneSound.j6 kj95 l2 (y403.set ((wrap64 (a3 - 1)) : Int).toNat (wrap64 ((rd l2 (ji112)) + a5))) a0_0 l0_1 a1_0 l1_1 t411 t412) else (none)) else (none)) else (none)) else (none)) = some r := by first | (rw [hji112] at H; exact H) | (simp only [hji112] at H ⊢; exact H)
            have hji112w : (IntKind.i64.wrap (a4 - 1)) = ji112 := (i64_w _).trans hji112
            by_cases c113 : 0 ≤ (ji112)
            ·rw [if_pos c113] at H
             have c113b0 : decide (0 ≤ (ji112)) = true := decide_eq_true c113
             clear c113
             by_cases c114 : (ji112) < (l2.length : Int)
             ·rw [if_pos c114] at H
              have c114b0 : decide ((ji112) < (l2.length : Int)) = true := decide_eq_true c114
              clear c114
              ((try clear hji80); (try clear hji80w))
              obtain ⟨ji115, hji115⟩ : ∃ j_ : Int, (wrap64 (a3 - 1)) = j_ := ⟨_, rfl⟩
              replace H : (if 0 ≤ (ji115) then (if (ji115) < (y403.length : Int) then (L2_ZoneSound.j6 kj95 l2 (y403.set ((ji115) : Int).toNat (wrap64 ((rd l2 (ji112)) + a5))) a0_0 l0_1 a1_0 l1_1 t411 t412) else (none)) else (none)) = some r := by first | (rw [hji115] at H; exact H) | (simp only [hji115] at H ⊢; exact H)
              have hji115w : (IntKind.i64.wrap (a3 - 1)) = ji115 := (i64_w _).trans hji115
              by_cases c116 : 0 ≤ (ji115)
              ·rw [if_pos c116] at H
               have c116b0 : decide (0 ≤ (ji115)) = true := decide_eq_true c116
               clear c116
               by_cases c117 : (ji115) < (y403.length : Int)
               ·rw [if_pos c117] at H
                have c117b0 : decide ((ji115) < (y403.length : Int)) = true := decide_eq_true c117
                clear c117
                obtain ⟨y420, hy420⟩ : ∃ y_ : List Int, y_ = (y403.set ((ji115) : Int).toNat (wrap64 ((rd l2 (ji112)) + a5))) := ⟨_, rfl⟩
                replace H : (L2_ZoneSound.j6 kj95 l2 y420 a0_0 l0_1 a1_0 l1_1 t411 t412) = some r := by first | (rw [hy420]; with_reducible exact H) | (have H2_ := (Option.bind_some _ _).symm.trans H; rw [hy420]; with_reducible exact H2_) | (have H2_ := (Option.bind_some _ _).symm.trans H; with_reducible exact H2_) | with_reducible exact H | (rw [hy420]; exact H) | exact H
                have Ny420 := am hy420
                clear hy420
                as_aux_lemma =>
                 have H' := am H
                 clear H
                 have p419 : 0 ≤ ((ji112) : Int) := of_decide_eq_true (by first | (with_reducible assumption) | assumption)
                 have q419 : (ji112) < (l2.length : Int) := of_decide_eq_true (by first | (with_reducible assumption) | assumption)
                 obtain ⟨ad419, e419, hx419_0⟩ := Kd.at_int HR2.out (ji112) p419 q419
                 cases e419
                 replace hx419_0 := (HB.out.cell (World.block_lt_of_cell? w _ hx419_0)).trans hx419_0
                 replace p419 := eq_true p419
                 replace q419 := eq_true q419
                 have p118 : 0 ≤ ((ji115) : Int) := of_decide_eq_true (by first | (with_reducible assumption) | assumption)
                 have q118 : ((ji115) : Int) < ((y403.length : Int) : Int) := of_decide_eq_true (by first | (with_reducible assumption) | assumption)
                 obtain ⟨hx118_0, hf118_0⟩ := Kd.R_celln 0 HO_19.out ((ji115) : Int) p118 q118
                 replace p118 := eq_true p118
                 replace q118 := eq_true q118
                 have HP119 := Kd.R_putg HO_19.out ((ji115) : Int) (wrap64 ((rd l2 (ji112)) + a5))
                 go_wp2_with (first | ((with_reducible refine gate_store (t := 3) (p := 165) rfl ?_); refine store_event (t := 3) (p := 165) (v := ?vo_w120) (w1 := (wc.setCell ⟨go83, ((ji115) : Int).toNat, none⟩ (.int .i64 (wrap64 ((rd l2 (ji112)) + a5))))) ?hg ?ho ?hn ?hr ?_; (case ho => rfl); (case hg => rfl); (case hn => rfl); (case hr => first | (go_simp; done) | (go_simp; rfl)); intro w120 hw; have hg : wc.grownBy w120 (some go83) := (by rw [hw]; exact HP119.2); have hp_ : Kd.R (Kd.int .i64) 3 w120 w.heap.size (fun _ => True) (.slice (some ⟨go83, 0, none⟩) y403.length co83) y420 := (by rw [hw, Ny420.out]; exact HP119.1); clear HP119; have n0_ := am (hp_); have n1_ := am (Kd.R_over' (v := (.slice (some ⟨go83, 0, none⟩) y403.length co83)) (by (with_reducible repeat (first | apply Kd.R_alloc | apply Kd.R_drewN | apply Kd.R_drew)); exact HO_399001.out) (Kd.R_typed HO_19.out) (by decide) hg); have n2_ := am (Kd.R_over' (v := (.slice (some ⟨go83, 0, none⟩) y403.length co83)) (by (with_reducible repeat (first | apply Kd.R_alloc | apply Kd.R_drewN | apply Kd.R_drew)); exact HO_418001.out) (Kd.R_typed HO_19.out) (by decide) hg); have n3_ := am (blk_grown (g := gb370) (o := .cells #[.int .i64 a0_0, .slice A0_1 l0_1.length c0_1] 33 (0, 0)) pk hg (Kd.R_ne HO_19.out BK370.out (by decide))); have n4_ := am (blk_grown (g := gb371) (o := .cells #[.int .i64 a1_0, .slice A1_1 l1_1.length c1_1] 33 (0, 0)) pk hg (Kd.R_ne HO_19.out BK371.out (by decide))); have n5_ := am (blk_grown (g := gb398) (o := .cells #[.int .i64 t392, .slice Ao77 t393.length co77] 37 (0, 0)) pk hg (Kd.R_ne HO_19.out BK398.out (by decide))); have n6_ := am (blk_grown (g := gb417) (o := .cells #[.int .i64 t411, .slice Ao108 t412.length co108] 37 (0, 0)) pk hg (Kd.R_ne HO_19.out BK417.out (by decide))); have n7_ := am ((by rw [hw]; exact below_set (HB.out) GB83.out : Below w.heap.size w w120)); clear HO_19; clear HO_399001; clear HO_418001; clear BK370; clear BK371; clear BK398; clear BK417; clear HB; have HO_19 := n0_; have HO_399001 := n1_; have HO_418001 := n2_; have BK370 := n3_; have BK371 := n4_; have BK398 := n5_; have BK417 := n6_; have HB := n7_; clear n0_ n1_ n2_ n3_ n4_ n5_ n6_ n7_; clear hg hw hp_))
                 go_meet
                 case rel => exact ⟨_, (y420), H', ⟨by have := HJ7.out; have := HJ41.out; have := HK3.out; have := HJ66.out; have := HJ84.out; have := HJ95.out; first | omega | exact Nat.le_refl _⟩, ⟨by (try simp only [hl19_84]); (with_reducible repeat (first | apply Kd.R_alloc | apply Kd.R_drewN | apply Kd.R_drew)); exact HO_19.out⟩, ⟨by (try simp only [hl19_84]); (with_reducible repeat (first | apply Kd.R_alloc | apply Kd.R_drewN | apply Kd.R_drew)); exact HO_399001.out⟩, ⟨by (try simp only [hl19_84]); (with_reducible repeat (first | apply Kd.R_alloc | apply Kd.R_drewN | apply Kd.R_drew)); exact HO_418001.out⟩, ⟨by (try simp only [hl19_84]); (with_reducible repeat (first | refine blk_drewN ?_ _ | refine blk_drew ?_ | refine blk_alloc ?_ _)); exact BK370.out⟩, ⟨by (try simp only [hl19_84]); (with_reducible repeat (first | refine blk_drewN ?_ _ | refine blk_drew ?_ | refine blk_alloc ?_ _)); exact BK371.out⟩, ⟨by (try simp only [hl19_84]); (with_reducible repeat (first | refine blk_drewN ?_ _ | refine blk_drew ?_ | refine blk_alloc ?_ _)); exact BK398.out⟩, ⟨by (try simp only [hl19_84]); (with_reducible repeat (first | refine blk_drewN ?_ _ | refine blk_drew ?_ | refine blk_alloc ?_ _)); exact BK417.out⟩, ⟨pw⟩⟩
               rw [if_neg c117] at H
               exact absurd H (by simp)
              rw [if_neg c116] at H
              exact absurd H (by simp)
             rw [if_neg c114] at H
             exact absurd H (by simp)
            rw [if_neg c113] at H
            exact absurd H (by simp)
           rw [if_neg c111] at H
           have c111b0 : decide (0 < a4) = false := decide_eq_false c111
           clear c111
           (first | rw [c111b0] | (simp only [i64_w, i32_w]; rw [c111b0]) | skip)
           as_aux_lemma =>
            have H' := am H
            clear H
            go_wp2
            go_meet
            case rel => exact ⟨_, (y403), H', ⟨by have := HJ7.out; have := HJ41.out; have := HK3.out; have := HJ66.out; have := HJ84.out; have := HJ95.out; first | omega | exact Nat.le_refl _⟩, ⟨by (try simp only [hl19_84]); (with_reducible repeat (first | apply Kd.R_alloc | apply Kd.R_drewN | apply Kd.R_drew)); exact HO_19.out⟩, ⟨by (try simp only [hl19_84]); (with_reducible repeat (first | apply Kd.R_alloc | apply Kd.R_drewN | apply Kd.R_drew)); exact HO_399001.out⟩, ⟨by (try simp only [hl19_84]); (with_reducible repeat (first | apply Kd.R_alloc | apply Kd.R_drewN | apply Kd.R_drew)); exact HO_418001.out⟩, ⟨by (try simp only [hl19_84]); (with_reducible repeat (first | refine blk_drewN ?_ _ | refine blk_drew ?_ | refine blk_alloc ?_ _)); exact BK370.out⟩, ⟨by (try simp only [hl19_84]); (with_reducible repeat (first | refine blk_drewN ?_ _ | refine blk_drew ?_ | refine blk_alloc ?_ _)); exact BK371.out⟩, ⟨by (try simp only [hl19_84]); (with_reducible repeat (first | refine blk_drewN ?_ _ | refine blk_drew ?_ | refine blk_alloc ?_ _)); exact BK398.out⟩, ⟨by (try simp only [hl19_84]); (with_reducible repeat (first | refine blk_drewN ?_ _ | refine blk_drew ?_ | refine blk_alloc ?_ _)); exact BK417.out⟩, ⟨pw⟩⟩
          clear HC110
          try clear c1
          try clear p1
          try clear q1
          try clear hx1
          try clear c2
          try clear p2
          try clear c3
          try clear p3
          try clear q3
          try clear hx3
          try clear c4
          try clear p4
          try clear q4
          try clear hx4
          try clear c5
          try clear c6
          try clear p6
          try clear c7
          try clear c8
          try clear p8
          try clear q8
          try clear hx8
          try clear hf8
          try clear c9
          try clear c10
          try clear c11
          try clear p11
          try clear q11
          try clear hx11
          try clear hf11
          try clear c12
          try clear c13
          try clear c13b0
          try clear c13b1
          try clear c14
          try clear c16
          try clear c16b0
          try clear c16b1
          try clear c17
          try clear c20
          try clear c20b0
          try clear c20b1
          try clear c21
          try clear c23
          try clear c25
          try clear c26
          try clear c28
          try clear c30
          try clear c32
          try clear c35
          try clear c37
          try clear c38
          try clear p38
          try clear q38
          try clear hx38
          try clear q39
          try clear q40
          try clear p41
          try clear q41
          try clear hx41
          try clear c43
          try clear c50
          try clear c51
          try clear c51b0
          try clear c52
          try clear c52b0
          try clear c53
          try clear c55
          try clear c55b0
          try clear c56
          try clear c58
          try clear c59
          try clear c60
          try clear c61
          try clear c61b0
          try clear c62
          try clear c62b0
          try clear c64
          try clear p64
          try clear c68
          try clear c74
          try clear c75
          try clear c78
          try clear c81
          try clear c81b0
          try clear c82
          try clear c82b0
          try clear p83
          try clear q83
          try clear hx83
          try clear hf83
          try clear c89
          try clear c90
          try clear c93
          try clear c97
          try clear c98
          try clear c104
          try clear c105
          try clear c106
          try clear c109
          try clear c111
          try clear c111b0
          try clear c113
          try clear c113b0
          try clear c114
          try clear c114b0
          try clear c116
          try clear c116b0
          try clear c117
          try clear c117b0
          try clear p118
          try clear q118
          try clear hx118
          try clear hf118
          try clear hcz107_0
          try clear hcz107_1
          try clear hcz15_0
          try clear hcz15_1
          try clear hcz18_0
          try clear hcz18_1
          try clear hcz19_0
          try clear hcz19_1
          try clear hcz22_0
          try clear hcz22_1
          try clear hcz23_0
          try clear hcz23_1
          try clear hcz27_0
          try clear hcz27_1
          try clear hcz28_0
          try clear hcz28_1
          try clear hcz33_0
          try clear hcz33_1
          try clear hcz34_0
          try clear hcz34_1
          try clear hcz36_0
          try clear hcz36_1
          try clear hcz37_0
          try clear hcz37_1
          try clear hcz44_0
          try clear hcz44_1
          try clear hcz54_0
          try clear hcz54_1
          try clear hcz57_0
          try clear hcz57_1
          try clear hcz59_0
          try clear hcz59_1
          try clear hcz69_0
          try clear hcz69_1
          try clear hcz76_0
          try clear hcz76_1
          try clear hcz91_0
          try clear hcz91_1
          try clear hcz99_0
          try clear hcz99_1
          try clear hfz107_0
          try clear hfz107_1
          try clear hfz15_0
          try clear hfz15_1
          try clear hfz18_0
          try clear hfz18_1
          try clear hfz19_0
          try clear hfz19_1
          try clear hfz22_0
          try clear hfz22_1
          try clear hfz23_0
          try clear hfz23_1
          try clear hfz27_0
          try clear hfz27_1
          try clear hfz28_0
          try clear hfz28_1
          try clear hfz33_0
          try clear hfz33_1
          try clear hfz34_0
          try clear hfz34_1
          try clear hfz36_0
          try clear hfz36_1
          try clear hfz37_0
          try clear hfz37_1
          try clear hfz44_0
          try clear hfz44_1
          try clear hfz54_0
          try clear hfz54_1
          try clear hfz57_0
          try clear hfz57_1
          try clear hfz59_0
          try clear hfz59_1
          try clear hfz69_0
          try clear hfz69_1
          try clear hfz76_0
          try clear hfz76_1
          try clear hfz91_0
          try clear hfz91_1
          try clear hfz99_0
          try clear hfz99_1
          try clear hx118_0
          try clear hx386_0
          try clear hx419_0
          try clear hx83_0
          try clear p118
          try clear p2
          try clear p3
          try clear p38
          try clear p386
          try clear p419
          try clear p6
          try clear p64
          try clear p8
          try clear p83
          try clear q118
          try clear q3
          try clear q38
          try clear q385
          try clear q386
          try clear q39
          try clear q399
          try clear q4
          try clear q40
          try clear q406
          try clear q41
          try clear q418
          try clear q419
          try clear q8
          try clear q83
          obtain ⟨kq, x19_109, HA, HJ109, HO_19, HO_399001, HO_418001, BK370, BK371, BK398, BK417, HB⟩ := hcut
          have hl19_109 := (Kd.R_reads' HO_19.out).1
          rw [hl19_109] at HO_19
          (try simp only [hl19_109])
          (try simp only [hl19_109] at BK370)
          (try simp only [hl19_109] at BK371)
          (try simp only [hl19_109] at BK398)
          (try simp only [hl19_109] at BK417)
          (try simp only [hl19_109] at HO_399001)
          (try simp only [hl19_109] at HO_418001)
          cases kq with
          | zero => exact absurd HA.out (by simp [L2_ZoneSound.j6])
          | succ kj109 =>
           have H := HA.out
           clear HA
           simp only [L2_ZoneSound.j6] at H
           replace H := Option.bind_eq_some_iff.mp H
           obtain ⟨⟨t421, t422⟩, A1210, H⟩ := H
           replace H : (if t422.isNone = true then (L2_ZoneSound.j7 kj109 l2 (!t421) a0_0 l0_1 a1_0 l1_1) else (L2_ZoneSound.j7 kj109 l2 true a0_0 l0_1 a1_0 l1_1)) = some r := H
           have A121 := am A1210
           clear A1210
           have HC122 := am H
           clear H
           have hnb123 := NB417_370.out
           have hnc123 := NB370_417.out
           have hnb124 := NB417_371.out
           have hnc124 := NB371_417.out
           have hnb125 := NB417_398.out
           have hnc125 := NB398_417.out
           have hcz126_0 : wc.cell? ⟨gb417, 0, none⟩ = some (.int .i64 t411) := bc BK417 0
           have hcz126_1 : wc.cell? ⟨gb417, 1, none⟩ = some (.slice Ao108 t412.length co108) := bc BK417 1
           have hfz126_0 := blk_frozen BK417.out 0
           have hfz126_1 := blk_frozen BK417.out 1
           go_upto_region 26 with (first | ((with_reducible refine gate_callee (f := 53) rfl ?_); refine goesL_ (some 169) rfl rfl Tryd.func53 kk rfl #[.agg #[.int .i64 t411, .slice Ao108 t412.length co108], .slice (some ⟨go83, 0, none⟩) x19_109.length co83] rfl (by (try simp only [List.map_toArray, List.map_cons, List.map_nil]); first | done | rfl | (simp only [List.length_drop, List.length_take]; rfl)) ?_; (with_reducible refine (zone_Has.calls t411 _ _ t412 _ _ x19_109 t421 t422 _ ?side1 ?side2 ?side3 ?side4 A121.out (am (ErrAt.below hE2.out pw)).out (am (ErrAt.below hE3.out pw)).out).mono ?_); (case side1 => repeat (first | exact (Kd.R_reads' HO_418001.out).2.2 | (with_reducible refine Kd.C_alloc ?_ _) | (with_reducible refine Kd.C_drewN ?_ _) | (with_reducible refine Kd.C_drew ?_))); (case side2 => exact (Kd.R_reads' HO_418001.out).2.1); (case side3 => repeat (first | exact (Kd.R_reads' HO_19.out).2.2 | (with_reducible refine Kd.C_alloc ?_ _) | (with_reducible refine Kd.C_drewN ?_ _) | (with_reducible refine Kd.C_drew ?_))); (case side4 => exact (Kd.R_reads' HO_19.out).2.1); rintro e w127 ⟨rfl, hb⟩; refine ⟨_, rfl, ?_⟩; have n0_ := am (Kd.R_below (by (with_reducible repeat (first | apply Kd.R_alloc | apply Kd.R_drewN | apply Kd.R_drew)); exact HO_19.out) hb); have n1_ := am (Kd.R_below (by (with_reducible repeat (first | apply Kd.R_alloc | apply Kd.R_drewN | apply Kd.R_drew)); exact HO_399001.out) hb); have n2_ := am (Kd.R_below (by (with_reducible repeat (first | apply Kd.R_alloc | apply Kd.R_drewN | apply Kd.R_drew)); exact HO_418001.out) hb); have n3_ := bb BK370 hb; have n4_ := bb BK371 hb; have n5_ := bb BK398 hb; have n6_ := bb BK417 hb; have n7_ := am (below_step pw hb); clear HO_19; clear HO_399001; clear HO_418001; clear BK370; clear BK371; clear BK398; clear BK417; clear HB; have HO_19 := n0_; have HO_399001 := n1_; have HO_418001 := n2_; have BK370 := n3_; have BK371 := n4_; have BK398 := n5_; have BK417 := n6_; have HB := n7_; clear n0_ n1_ n2_ n3_ n4_ n5_ n6_ n7_; (try clear hb); (try clear hb2); (try clear hk); (try clear hi); (try simp only [errW_none, errW_some])))
           (try simp only [Act.put, List.setIfInBounds_toArray, List.set_cons_zero, List.set_cons_succ])
           go_cut [177] (fun v177 wc => ∃ (kq : Nat) (x177_121 : Bool), v177 = .bool x177_121 ∧ Aside0 (L2_ZoneSound.j7 kq l2 x177_121 a0_0 l0_1 a1_0 l1_1 = some r) ∧ Aside0 (kq ≤ kj109) ∧ Aside0 (Kd.R k42 42 wc w.heap.size (fun k_ => some k_ ≠ ((.slice Ao108 t412.length co108) : Value).ownBlock) (.slice Ao77 t393.length co77) t393) ∧ Aside0 (Kd.R k42 42 wc w.heap.size (fun k_ => some k_ ≠ ((.slice Ao77 t393.length co77) : Value).ownBlock) (.slice Ao108 t412.length co108) t412) ∧ Aside0 (wc.heap[gb370]? = some (.cells #[.int .i64 a0_0, (.slice A0_1 l0_1.length c0_1)] 33 (0, 0))) ∧ Aside0 (wc.heap[gb371]? = some (.cells #[.int .i64 a1_0, (.slice A1_1 l1_1.length c1_1)] 33 (0, 0))) ∧ Aside0 (wc.heap[gb398]? = some (.cells #[.int .i64 t392, (.slice Ao77 t393.length co77)] 37 (0, 0))) ∧ Aside0 (wc.heap[gb417]? = some (.cells #[.int .i64 t411, (.slice Ao108 t412.length co108)] 37 (0, 0))) ∧ Aside0 (Below w.heap.size w wc))
           case first =>
            have H := HC122.out
            clear HC122
            rcases t422 with _ | q423
            ·have H1 : (L2_ZoneSound.j7 kj109 l2 (!t421) a0_0 l0_1 a1_0 l1_1) = some r := by rw [if_pos (show (none : Option Int).isNone = true by rfl)] at H; exact H
             clear H
             have H := H1
             clear H1
             try simp only [errW_none, errW_some]
             as_aux_lemma =>
              have H' := am H
              clear H
              go_wp2
              go_meet
              case rel => exact ⟨_, (!t421), pr, H', ⟨by have := HJ7.out; have := HJ41.out; have := HK3.out; have := HJ66.out; have := HJ84.out; have := HJ95.out; have := HJ109.out; first | omega | exact Nat.le_refl _⟩, ⟨by (try simp only [hl19_84]); (try simp only [hl19_109]); (with_reducible repeat (first | apply Kd.R_alloc | apply Kd.R_drewN | apply Kd.R_drew)); exact HO_399001.out⟩, ⟨by (try simp only [hl19_84]); (try simp only [hl19_109]); (with_reducible repeat (first | apply Kd.R_alloc | apply Kd.R_drewN | apply Kd.R_drew)); exact HO_418001.out⟩, ⟨by (try simp only [hl19_84]); (try simp only [hl19_109]); (with_reducible repeat (first | refine blk_drewN ?_ _ | refine blk_drew ?_ | refine blk_alloc ?_ _)); exact BK370.out⟩, ⟨by (try simp only [hl19_84]); (try simp only [hl19_109]); (with_reducible repeat (first | refine blk_drewN ?_ _ | refine blk_drew ?_ | refine blk_alloc ?_ _)); exact BK371.out⟩, ⟨by (try simp only [hl19_84]); (try simp only [hl19_109]); (with_reducible repeat (first | refine blk_drewN ?_ _ | refine blk_drew ?_ | refine blk_alloc ?_ _)); exact BK398.out⟩, ⟨by (try simp only [hl19_84]); (try simp only [hl19_109]); (with_reducible repeat (first | refine blk_drewN ?_ _ | refine blk_drew ?_ | refine blk_alloc ?_ _)); exact BK417.out⟩, ⟨pw⟩⟩
            have H1 : (L2_ZoneSound.j7 kj109 l2 true a0_0 l0_1 a1_0 l1_1) = some r := by rw [if_neg (show ¬ (some q423).isNone = true by simp)] at H; exact H
            clear H
            have H := H1
            clear H1
            try simp only [errW_none, errW_some]
            as_aux_lemma =>
             have H' := am H
             clear H
             go_wp2
             go_meet
             case rel => exact ⟨_, (true), pr, H', ⟨by have := HJ7.out; have := HJ41.out; have := HK3.out; have := HJ66.out; have := HJ84.out; have := HJ95.out; have := HJ109.out; first | omega | exact Nat.le_refl _⟩, ⟨by (try simp only [hl19_84]); (try simp only [hl19_109]); (with_reducible repeat (first | apply Kd.R_alloc | apply Kd.R_drewN | apply Kd.R_drew)); exact HO_399001.out⟩, ⟨by (try simp only [hl19_84]); (try simp only [hl19_109]); (with_reducible repeat (first | apply Kd.R_alloc | apply Kd.R_drewN | apply Kd.R_drew)); exact HO_418001.out⟩, ⟨by (try simp only [hl19_84]); (try simp only [hl19_109]); (with_reducible repeat (first | refine blk_drewN ?_ _ | refine blk_drew ?_ | refine blk_alloc ?_ _)); exact BK370.out⟩, ⟨by (try simp only [hl19_84]); (try simp only [hl19_109]); (with_reducible repeat (first | refine blk_drewN ?_ _ | refine blk_drew ?_ | refine blk_alloc ?_ _)); exact BK371.out⟩, ⟨by (try simp only [hl19_84]); (try simp only [hl19_109]); (with_reducible repeat (first | refine blk_drewN ?_ _ | refine blk_drew ?_ | refine blk_alloc ?_ _)); exact BK398.out⟩, ⟨by (try simp only [hl19_84]); (try simp only [hl19_109]); (with_reducible repeat (first | refine blk_drewN ?_ _ | refine blk_drew ?_ | refine blk_alloc ?_ _)); exact BK417.out⟩, ⟨pw⟩⟩
           clear HC122
           try clear c1
           try clear p1
           try clear q1
           try clear hx1
           try clear c2
           try clear p2
           try clear c3
           try clear p3
           try clear q3
           try clear hx3
           try clear c4
           try clear p4
           try clear q4
           try clear hx4
           try clear c5
           try clear c6
           try clear p6
           try clear c7
           try clear c8
           try clear p8
           try clear q8
           try clear hx8
           try clear hf8
           try clear c9
           try clear c10
           try clear c11
           try clear p11
           try clear q11
           try clear hx11
           try clear hf11
           try clear c12
           try clear c13
           try clear c13b0
           try clear c13b1
           try clear c14
           try clear c16
           try clear c16b0
           try clear c16b1
           try clear c17
           try clear c20
           try clear c20b0
           try clear c20b1
           try clear c21
           try clear c23
           try clear c25
           try clear c26
           try clear c28
           try clear c30
           try clear c32
           try clear c35
           try clear c37
           try clear c38
           try clear p38
           try clear q38
           try clear hx38
           try clear q39
           try clear q40
           try clear p41
           try clear q41
           try clear hx41
           try clear q42
           try clear c43
           try clear c50
           try clear c51
           try clear c51b0
           try clear c52
           try clear c52b0
           try clear c53
           try clear c55
           try clear c55b0
           try clear c56
           try clear c58
           try clear c59
           try clear c60
           try clear c61
           try clear c61b0
           try clear c62
           try clear c62b0
           try clear c64
           try clear p64
           try clear c68
           try clear c74
           try clear c75
           try clear c78
           try clear c81
           try clear c81b0
           try clear c82
           try clear c82b0
           try clear p83
           try clear q83
           try clear hx83
           try clear hf83
           try clear c89
           try clear c90
           try clear c93
           try clear c97
           try clear c98
           try clear c104
           try clear c105
           try clear c106
           try clear c109
           try clear c111
           try clear c111b0
           try clear c113
           try clear c113b0
           try clear c114
           try clear c114b0
           try clear c116
           try clear c116b0
           try clear c117
           try clear c117b0
           try clear p118
           try clear q118
           try clear hx118
           try clear hf118
           try clear c123
           try clear c124
           try clear c125
           try clear hcz107_0
           try clear hcz107_1
           try clear hcz126_0
           try clear hcz126_1
           try clear hcz15_0
           try clear hcz15_1
           try clear hcz18_0
           try clear hcz18_1
           try clear hcz19_0
           try clear hcz19_1
           try clear hcz22_0
           try clear hcz22_1
           try clear hcz23_0
           try clear hcz23_1
           try clear hcz27_0
           try clear hcz27_1
           try clear hcz28_0
           try clear hcz28_1
           try clear hcz33_0
           try clear hcz33_1
           try clear hcz34_0
           try clear hcz34_1
           try clear hcz36_0
           try clear hcz36_1
           try clear hcz37_0
           try clear hcz37_1
           try clear hcz44_0
           try clear hcz44_1
           try clear hcz54_0
           try clear hcz54_1
           try clear hcz57_0
           try clear hcz57_1
           try clear hcz59_0
           try clear hcz59_1
           try clear hcz69_0
           try clear hcz69_1
           try clear hcz76_0
           try clear hcz76_1
           try clear hcz91_0
           try clear hcz91_1
           try clear hcz99_0
           try clear hcz99_1
           try clear hfz107_0
           try clear hfz107_1
           try clear hfz126_0
           try clear hfz126_1
           try clear hfz15_0
           try clear hfz15_1
           try clear hfz18_0
           try clear hfz18_1
           try clear hfz19_0
           try clear hfz19_1
           try clear hfz22_0
           try clear hfz22_1
           try clear hfz23_0
           try clear hfz23_1
           try clear hfz27_0
           try clear hfz27_1
           try clear hfz28_0
           try clear hfz28_1
           try clear hfz33_0
           try clear hfz33_1
           try clear hfz34_0
           try clear hfz34_1
           try clear hfz36_0
           try clear hfz36_1
           try clear hfz37_0
           try clear hfz37_1
           try clear hfz44_0
           try clear hfz44_1
           try clear hfz54_0
           try clear hfz54_1
           try clear hfz57_0
           try clear hfz57_1
           try clear hfz59_0
           try clear hfz59_1
           try clear hfz69_0
           try clear hfz69_1
           try clear hfz76_0
           try clear hfz76_1
           try clear hfz91_0
           try clear hfz91_1
           try clear hfz99_0
           try clear hfz99_1
           try clear hx118_0
           try clear hx386_0
           try clear hx419_0
           try clear hx83_0
           try clear p1
           try clear p11
           try clear p118
           try clear p2
           try clear p3
           try clear p38
           try clear p386
           try clear p4
           try clear p41
           try clear p419
           try clear p6
           try clear p64
           try clear p8
           try clear p83
           try clear q1
           try clear q11
           try clear q118
           try clear q3
           try clear q38
           try clear q385
           try clear q386
           try clear q39
           try clear q399
           try clear q4
           try clear q40
           try clear q406
           try clear q41
           try clear q418
           try clear q419
           try clear q423
           try clear q8
           try clear q83
           obtain ⟨kq, x177_121, rfl, HA, HJ121, HO_399001, HO_418001, BK370, BK371, BK398, BK417, HB⟩ := hcut
           cases kq with
           | zero => exact absurd HA.out (by simp [L2_ZoneSound.j7])
           | succ kj121 =>
            have H := HA.out
            clear HA
            simp only [L2_ZoneSound.j7] at H
            by_cases c128 : x177_121 = true
            ·subst c128
             have H1 : (none) = some r := by rw [if_pos rfl] at H; exact H
             clear H
             have H := H1
             clear H1
             exact absurd H (by simp)
            replace c128 := Bool.eq_false_iff.mpr c128
            subst c128
            have H1 : ((L2_zoneOf.f kj121 a0_0 l0_1).bind fun bt424 => ((L2_zoneOf.f kj121 a1_0 l1_1).bind fun bt428 => ((zone_Join.f bt424.1 bt424.2 bt428.1 bt428.2).bind fun bt432 => (if bt432.2.2.isNone = true then ((L2_ints.f l2).bind fun t439 => ((zone_Has.f bt432.1 bt432.2.1 t439).bind fun bt442 => (if bt442.2.isNone = true then (some bt442.1) else (none)))) else (some true))))) = some r := by rw [if_neg (show ¬ (false = true) by decide)] at H; exact H
            clear H
            have H := H1
            clear H1
            replace H := Option.bind_eq_some_iff.mp H
            obtain ⟨⟨t424, t425⟩, A1290, H⟩ := H
            replace H : ((L2_zoneOf.f kj121 a1_0 l1_1).bind fun bt428 => ((zone_Join.f t424 t425 bt428.1 bt428.2).bind fun bt432 => (if bt432.2.2.isNone = true then ((L2_ints.f l2).bind fun t439 => ((zone_Has.f bt432.1 bt432.2.1 t439).bind fun bt442 => (if bt442.2.isNone = true then (some bt442.1) else (none)))) else (some true)))) = some r := H
            have A129 := am A1290
            clear A1290
            replace H := Option.bind_eq_some_iff.mp H
            obtain ⟨⟨t428, t429⟩, A1300, H⟩ := H
            replace H : ((zone_Join.f t424 t425 t428 t429).bind fun bt432 => (if bt432.2.2.isNone = true then ((L2_ints.f l2).bind fun t439 => ((zone_Has.f bt432.1 bt432.2.1 t439).bind fun bt442 => (if bt442.2.isNone = true then (some bt442.1) else (none)))) else (some true))) = some r := H
            have A130 := am A1300
            clear A1300
            replace H := Option.bind_eq_some_iff.mp H
            obtain ⟨⟨t432, t433, t436⟩, A1310, H⟩ := H
            replace H : (if t436.isNone = true then ((L2_ints.f l2).bind fun t439 => ((zone_Has.f t432 t433 t439).bind fun bt442 => (if bt442.2.isNone = true then (some bt442.1) else (none)))) else (some true)) = some r := H
            have A131 := am A1310
            clear A1310
            rcases t436 with _ | q438
            ·have H1 : ((L2_ints.f l2).bind fun t439 => ((zone_Has.f t432 t433 t439).bind fun bt442 => (if bt442.2.isNone = true then (some bt442.1) else (none)))) = some r := by rw [if_pos (show (none : Option Int).isNone = true by rfl)] at H; exact H
             clear H
             have H := H1
             clear H1
             try simp only [errW_none, errW_some]
             replace H := Option.bind_eq_some_iff.mp H
             obtain ⟨t439, A1320, H⟩ := H
             replace H : ((zone_Has.f t432 t433 t439).bind fun bt442 => (if bt442.2.isNone = true then (some bt442.1) else (none))) = some r := H
             have A132 := am A1320
             clear A1320
             replace H := Option.bind_eq_some_iff.mp H
             obtain ⟨⟨t442, t443⟩, A1330, H⟩ := H
             replace H : (if t443.isNone = true then (some t442) else (none)) = some r := H
             have A133 := am A1330
             clear A1330
             rcases t443 with _ | q444
             ·have H1 : (some t442) = some r := by rw [if_pos (show (none : Option Int).isNone = true by rfl)] at H; exact H
              clear H
              have H := H1
              clear H1
              try simp only [errW_none, errW_some]
              as_aux_lemma =>
               obtain rfl := Option.some.inj H
               try go_wp2
               have n0_ := am (Kd.R_drew HO_399001.out)
               have n1_ := am (Kd.R_drew HO_418001.out)
               have n2_ := am (blk_drew BK370.out)
               have n3_ := am (blk_drew BK371.out)
               have n4_ := am (blk_drew BK398.out)
               have n5_ := am (blk_drew BK417.out)
               have n6_ := am (below_drew1 HB.out)
               clear HO_399001 HO_418001 BK370 BK371 BK398 BK417 HB
               revert n0_ n1_ n2_ n3_ n4_ n5_ n6_
               intro HO_399001 HO_418001 BK370 BK371 BK398 BK417 HB
               refine start_ (n := 11) (S := fun w' => w'.cell? ⟨gb370, 0, none⟩ = some (.int .i64 a0_0) ∧ w'.cell? ⟨gb370, 1, none⟩ = some (.slice A0_1 l0_1.length c0_1) ∧ w'.cell? ⟨gb371, 0, none⟩ = some (.int .i64 a1_0) ∧ w'.cell? ⟨gb371, 1, none⟩ = some (.slice A1_1 l1_1.length c1_1)) (ds := []) #[false, false, false, false, false, false, false, false, false, false, false] kk rfl rfl ⟨bc BK370 0, bc BK370 1, bc BK371 0, bc BK371 1⟩ (fun hHeld => ?_); refine with_tabW L2_ZoneSound.tab28 L2_ZoneSound.bits28 (fun HT_ HW_ => ?_)
               generalize wc.drew = w134 at HO_399001 HO_418001 BK370 BK371 BK398 BK417 HB hHeld ⊢
               refine take_ (i := 0) (N := some 179) (v := ?_) (a' := ?_) #[true, false, false, false, false, false, false, false, false, false, false] rfl rfl (take_ofW HT_.out HW_.out kk) (fun _ _ _ h => h) (Or.inl ⟨by rfl, ?_⟩) hHeld ?_ ?_
               rotate_left
               ·rintro w' ⟨s0, s1, s2, s3⟩
                go_simp
                with_reducible rfl
               rotate_left
               ·simp only [Act.put, List.setIfInBounds_toArray, List.set_cons_zero, List.set_cons_succ, i64_w, i32_w]
                rfl
               refine take_ (i := 2) (N := some 181) (v := ?_) (a' := ?_) #[true, false, true, false, false, false, false, false, false, false, false] rfl rfl (take_ofW HT_.out HW_.out kk) (fun _ _ _ h => h) (Or.inl ⟨by rfl, ?_⟩) hHeld ?_ ?_
               rotate_left
               ·rintro w' ⟨s0, s1, s2, s3⟩
                go_simp
                with_reducible rfl
               rotate_left
               ·simp only [Act.put, List.setIfInBounds_toArray, List.set_cons_zero, List.set_cons_succ, i64_w, i32_w]
                rfl
               refine join_ (σ := Value × Value × Value × Nat) 2 #[true, true, true, true, true, true, true, true, true, false, false] (fun s_ => [(180, .agg #[.int .i64 t424, s_.1]), (182, .agg #[.int .i64 t428, s_.2.1]), (183, .tuple #[.agg #[.int .i64 t432, s_.2.2.1], .nilIface]), (21, .pointer (some ⟨s_.2.2.2, 0, none⟩)), (178, .tuple #[.agg #[.int .i64 t432, s_.2.2.1], .nilIface]), (184, .agg #[.int .i64 t432, s_.2.2.1]), (185, .nilIface)]) (fun s_ w' => (w'.cell? ⟨gb370, 0, none⟩ = some (.int .i64 a0_0) ∧ w'.cell? ⟨gb370, 1, none⟩ = some (.slice A0_1 l0_1.length c0_1) ∧ w'.cell? ⟨gb371, 0, none⟩ = some (.int .i64 a1_0) ∧ w'.cell? ⟨gb371, 1, none⟩ = some (.slice A1_1 l1_1.length c1_1)) ∧ (Kd.R k42 42 w' w.heap.size (fun k_ => some k_ ≠ (s_.2.1 : Value).ownBlock ∧ some k_ ≠ (s_.2.2.1 : Value).ownBlock ∧ some k_ ≠ (.slice Ao77 t393.length co77 : Value).ownBlock ∧ some k_ ≠ (.slice Ao108 t412.length co108 : Value).ownBlock) s_.1 t425) ∧ (Kd.R k42 42 w' w.heap.size (fun k_ => some k_ ≠ (s_.1 : Value).ownBlock ∧ some k_ ≠ (s_.2.2.1 : Value).ownBlock ∧ some k_ ≠ (.slice Ao77 t393.length co77 : Value).ownBlock ∧ some k_ ≠ (.slice Ao108 t412.length co108 : Value).ownBlock) s_.2.1 t429) ∧ (Kd.R k42 42 w' w.heap.size (fun k_ => some k_ ≠ (s_.1 : Value).ownBlock ∧ some k_ ≠ (s_.2.1 : Value).ownBlock ∧ some k_ ≠ (.slice Ao77 t393.length co77 : Value).ownBlock ∧ some k_ ≠ (.slice Ao108 t412.length co108 : Value).ownBlock) s_.2.2.1 t433) ∧ (Kd.R k42 42 w' w.heap.size (fun k_ => some k_ ≠ (s_.1 : Value).ownBlock ∧ some k_ ≠ (s_.2.1 : Value).ownBlock ∧ some k_ ≠ (s_.2.2.1 : Value).ownBlock ∧ some k_ ≠ (.slice Ao108 t412.length co108 : Value).ownBlock) (.slice Ao77 t393.length co77) t393) ∧ (Kd.R k42 42 w' w.heap.size (fun k_ => some k_ ≠ (s_.1 : Value).ownBlock ∧ some k_ ≠ (s_.2.1 : Value).ownBlock ∧ some k_ ≠ (s_.2.2.1 : Value).ownBlock ∧ some k_ ≠ (.slice Ao77 t393.length co77 : Value).ownBlock) (.slice Ao108 t412.length co108) t412) ∧ (w'.heap[gb370]? = some (.cells #[.int .i64 a0_0, .slice A0_1 l0_1.length c0_1] 33 (0, 0))) ∧ (w'.heap[gb371]? = some (.cells #[.int .i64 a1_0, .slice A1_1 l1_1.length c1_1] 33 (0, 0))) ∧ (w'.heap[gb398]? = some (.cells #[.int .i64 t392, .slice Ao77 t393.length co77] 37 (0, 0))) ∧ (w'.heap[gb417]? = some (.cells #[.int .i64 t411, .slice Ao108 t412.length co108] 37 (0, 0))) ∧ (w'.heap[s_.2.2.2]? = some (.cells #[.int .i64 0, .slice none 0 0] 37 (0, 0))) ∧ (w.heap.size ≤ s_.2.2.2) ∧ (w.heap.size ≤ s_.2.2.2) ∧ (gb370 ≠ s_.2.2.2) ∧ (s_.2.2.2 ≠ gb370) ∧ (gb371 ≠ s_.2.2.2) ∧ (s_.2.2.2 ≠ gb371) ∧ (gb398 ≠ s_.2.2.2) ∧ (s_.2.2.2 ≠ gb398) ∧ (gb417 ≠ s_.2.2.2) ∧ (s_.2.2.2 ≠ gb417) ∧ (Below w.heap.size w w')) ?_ ?_
               rotate_left
               ·intro hCont
                refine two_ (i := 1) (j := 8) (Ni := some 180) (Nj := some 21) #[true, true, true, false, false, false, false, false, false, false, false] #[true, false, true, false, false, false, false, false, true, false, false] rfl rfl rfl rfl (two_of HT_.out kk) (by decide) (by decide) (fun K hK => ?_) (fun K hK => ?_)
                ·skip
                 refine goes_ Tryd.func23 kk rfl #[.agg #[.int .i64 a0_0, .slice A0_1 l0_1.length c0_1]] (by rfl) rfl rfl (by (try simp only [List.map_toArray, List.map_cons, List.map_nil]); first | done | rfl | (simp only [List.length_drop, List.length_take]; rfl)) ?_
                 with_reducible refine (L2_zoneOf.calls kj121 a0_0 _ _ l0_1 t424 t425 _ ?side1 ?side2 A129.out).mono ?_
                 (case side1 => repeat (first | exact (Kd.C_below HR0_1.out HB.out) | (with_reducible refine Kd.C_alloc ?_ _) | (with_reducible refine Kd.C_drewN ?_ _) | (with_reducible refine Kd.C_drew ?_)))
                 (case side2 => exact HC0_1.out)
                 rintro e w135 ⟨v426, rfl, ho0, hb⟩
                 refine ⟨_, rfl, ?_⟩
                 have n0_ := am (Kd.R_elder' (by (with_reducible repeat (first | apply Kd.R_alloc | apply Kd.R_drewN | apply Kd.R_drew)); exact HO_399001.out) (Kd.R_base ho0) hb)
                 have n1_ := am (Kd.R_elder' (by (with_reducible repeat (first | apply Kd.R_alloc | apply Kd.R_drewN | apply Kd.R_drew)); exact HO_418001.out) (Kd.R_base ho0) hb)
                 have n2_ := am (Kd.R_lower (Kd.R_new' (Kd.R_new' ho0 (Kd.R_lt (by (with_reducible repeat (first | apply Kd.R_alloc | apply Kd.R_drewN | apply Kd.R_drew)); exact HO_399001.out))) (Kd.R_lt (by (with_reducible repeat (first | apply Kd.R_alloc | apply Kd.R_drewN | apply Kd.R_drew)); exact HO_418001.out))) (below_size pw))
                 have n3_ := bb BK370 hb
                 have n4_ := bb BK371 hb
                 have n5_ := bb BK398 hb
                 have n6_ := bb BK417 hb
                 have n7_ := am (below_step pw hb)
                 clear HO_399001 HO_418001 BK370 BK371 BK398 BK417 HB
                 revert n0_ n1_ n2_ n3_ n4_ n5_ n6_ n7_
                 intro HO_399001 HO_418001 HO427 BK370 BK371 BK398 BK417 HB
                 (try clear hb)
                 (try clear hb2)
                 (try clear hk)
                 (try clear hi)
                 (try clear ho0)
                 refine hK.out _ _ ⟨bc BK370 0, bc BK370 1, bc BK371 0, bc BK371 1⟩ (fun hHeld => ?_)
                 clear hK K
                 refine norm_ (a' := ?_) ?_ ?_
                 rotate_left
                 ·show Act.put _ (some 180) _ = _
                  simp only [Act.put, List.setIfInBounds_toArray, List.set_cons_zero, List.set_cons_succ, i64_w, i32_w]
                  rfl
                 refine two_ (i := 3) (j := 8) (Ni := some 182) (Nj := some 21) #[true, true, true, true, false, false, false, false, false, false, false] #[true, true, true, false, false, false, false, false, true, false, false] rfl rfl rfl rfl (two_of HT_.out kk) (by decide) (by decide) (fun K hK => ?_) (fun K hK => ?_)
                 ·skip
                  refine goes_ Tryd.func23 kk rfl #[.agg #[.int .i64 a1_0, .slice A1_1 l1_1.length c1_1]] (by rfl) rfl rfl (by (try simp only [List.map_toArray, List.map_cons, List.map_nil]); first | done | rfl | (simp only [List.length_drop, List.length_take]; rfl)) ?_
                  with_reducible refine (L2_zoneOf.calls kj121 a1_0 _ _ l1_1 t428 t429 _ ?side1 ?side2 A130.out).mono ?_
                  (case side1 => repeat (first | exact (Kd.C_below HR1_1.out HB.out) | (with_reducible refine Kd.C_alloc ?_ _) | (with_reducible refine Kd.C_drewN ?_ _) | (with_reducible refine Kd.C_drew ?_)))
                  (case side2 => exact HC1_1.out)
                  rintro e w136 ⟨v430, rfl, ho0, hb⟩
                  refine ⟨_, rfl, ?_⟩
                  have n0_ := am (Kd.R_elder' (by (with_reducible repeat (first | apply Kd.R_alloc | apply Kd.R_drewN | apply Kd.R_drew)); exact HO_399001.out) (Kd.R_base ho0) hb)
                  have n1_ := am (Kd.R_elder' (by (with_reducible repeat (first | apply Kd.R_alloc | apply Kd.R_drewN | apply Kd.R_drew)); exact HO_418001.out) (Kd.R_base ho0) hb)
                  have n2_ := am (Kd.R_elder' (by (with_reducible repeat (first | apply Kd.R_alloc | apply Kd.R_drewN | apply Kd.R_drew)); exact HO427.out) (Kd.R_base ho0) hb)
                  have n3_ := am (Kd.R_lower (Kd.R_new' (Kd.R_new' (Kd.R_new' ho0 (Kd.R_lt (by (with_reducible repeat (first | apply Kd.R_alloc | apply Kd.R_drewN | apply Kd.R_drew)); exact HO_399001.out))) (Kd.R_lt (by (with_reducible repeat (first | apply Kd.R_alloc | apply Kd.R_drewN | apply Kd.R_drew)); exact HO_418001.out))) (Kd.R_lt (by (with_reducible repeat (first | apply Kd.R_alloc | apply Kd.R_drewN | apply Kd.R_drew)); exact HO427.out))) (below_size pw))
                  have n4_ := bb BK370 hb
                  have n5_ := bb BK371 hb
                  have n6_ := bb BK398 hb
                  have n7_ := bb BK417 hb
                  have n8_ := am (below_step pw hb)
                  clear HO_399001 HO_418001 HO427 BK370 BK371 BK398 BK417 HB
                  revert n0_ n1_ n2_ n3_ n4_ n5_ n6_ n7_ n8_
                  intro HO_399001 HO_418001 HO427 HO431 BK370 BK371 BK398 BK417 HB
                  (try clear hb)
                  (try clear hb2)
                  (try clear hk)
                  (try clear hi)
                  (try clear ho0)
                  obtain ⟨Ao137, co137, eo137⟩ := Kd.R_slice HO427.out
                  (first | subst eo137 | (injection eo137 with f1_ f2_ f3_; have f4_ := f1_.symm; have f5_ := f3_.symm; clear f1_ f2_ f3_; subst f4_; subst f5_))
                  obtain ⟨Ao138, co138, eo138⟩ := Kd.R_slice HO431.out
                  (first | subst eo138 | (injection eo138 with f1_ f2_ f3_; have f4_ := f1_.symm; have f5_ := f3_.symm; clear f1_ f2_ f3_; subst f4_; subst f5_))
                  refine hK.out _ _ ⟨bc BK370 0, bc BK370 1, bc BK371 0, bc BK371 1⟩ (fun hHeld => ?_)
                  clear hK K
                  refine norm_ (a' := ?_) ?_ ?_
                  rotate_left
                  ·show Act.put _ (some 182) _ = _
                   simp only [Act.put, List.setIfInBounds_toArray, List.set_cons_zero, List.set_cons_succ, i64_w, i32_w]
                   rfl
                  refine two_ (i := 4) (j := 8) (Ni := some 183) (Nj := some 21) #[true, true, true, true, true, false, false, false, false, false, false] #[true, true, true, true, false, false, false, false, true, false, false] rfl rfl rfl rfl (two_of HT_.out kk) (by decide) (by decide) (fun K hK => ?_) (fun K hK => ?_)
                  ·skip
                   refine goes_ Tryd.func46 kk rfl #[.agg #[.int .i64 t424, .slice Ao137 t425.length co137], .agg #[.int .i64 t428, .slice Ao138 t429.length co138]] (by rfl) rfl rfl (by (try simp only [List.map_toArray, List.map_cons, List.map_nil]); first | done | rfl | (simp only [List.length_drop, List.length_take]; rfl)) ?_
                   with_reducible refine (zone_Join.calls t424 _ _ t425 t428 _ _ t429 t432 t433 none _ ?side1 ?side2 ?side3 ?side4 A131.out (am (ErrAt.below hE2.out pw)).out (am (ErrAt.below hE3.out pw)).out (am (ErrAt.below hE4.out pw)).out).mono ?_
                   (case side1 => repeat (first | exact (Kd.R_reads' HO427.out).2.2 | (with_reducible refine Kd.C_alloc ?_ _) | (with_reducible refine Kd.C_drewN ?_ _) | (with_reducible refine Kd.C_drew ?_)))
                   (case side2 => exact (Kd.R_reads' HO427.out).2.1)
                   (case side3 => repeat (first | exact (Kd.R_reads' HO431.out).2.2 | (with_reducible refine Kd.C_alloc ?_ _) | (with_reducible refine Kd.C_drewN ?_ _) | (with_reducible refine Kd.C_drew ?_)))
                   (case side4 => exact (Kd.R_reads' HO431.out).2.1)
                   rintro e w139 ⟨v434, rfl, ho0, hb⟩
                   refine ⟨_, rfl, ?_⟩
                   have n0_ := am (Kd.R_elder' (by (with_reducible repeat (first | apply Kd.R_alloc | apply Kd.R_drewN | apply Kd.R_drew)); exact HO_399001.out) (Kd.R_base ho0) hb)
                   have n1_ := am (Kd.R_elder' (by (with_reducible repeat (first | apply Kd.R_alloc | apply Kd.R_drewN | apply Kd.R_drew)); exact HO_418001.out) (Kd.R_base ho0) hb)
                   have n2_ := am (Kd.R_elder' (by (with_reducible repeat (first | apply Kd.R_alloc | apply Kd.R_drewN | apply Kd.R_drew)); exact HO427.out) (Kd.R_base ho0) hb)
                   have n3_ := am (Kd.R_elder' (by (with_reducible repeat (first | apply Kd.R_alloc | apply Kd.R_drewN | apply Kd.R_drew)); exact HO431.out) (Kd.R_base ho0) hb)
                   have n4_ := am (Kd.R_lower (Kd.R_new' (Kd.R_new' (Kd.R_new' (Kd.R_new' ho0 (Kd.R_lt (by (with_reducible repeat (first | apply Kd.R_alloc | apply Kd.R_drewN | apply Kd.R_drew)); exact HO_399001.out))) (Kd.R_lt (by (with_reducible repeat (first | apply Kd.R_alloc | apply Kd.R_drewN | apply Kd.R_drew)); exact HO_418001.out))) (Kd.R_lt (by (with_reducible repeat (first | apply Kd.R_alloc | apply Kd.R_drewN | apply Kd.R_drew)); exact HO427.out))) (Kd.R_lt (by (with_reducible repeat (first | apply Kd.R_alloc | apply Kd.R_drewN | apply Kd.R_drew)); exact HO431.out))) (below_size pw))
                   have n5_ := bb BK370 hb
                   have n6_ := bb BK371 hb
                   have n7_ := bb BK398 hb
                   have n8_ := bb BK417 hb
                   have n9_ := am (below_step pw hb)
                   clear HO_399001 HO_418001 HO427 HO431 BK370 BK371 BK398 BK417 HB
                   revert n0_ n1_ n2_ n3_ n4_ n5_ n6_ n7_ n8_ n9_
                   intro HO_399001 HO_418001 HO427 HO431 HO435 BK370 BK371 BK398 BK417 HB
                   (try clear hb)
                   (try clear hb2)
                   (try clear hk)
                   (try clear hi)
                   (try clear ho0)
                   (try simp only [errW_none, errW_some])
                   refine hK.out _ _ ⟨bc BK370 0, bc BK370 1, bc BK371 0, bc BK371 1⟩ (fun hHeld => ?_)
                   clear hK K
                   refine norm_ (a' := ?_) ?_ ?_
                   rotate_left
                   ·show Act.put _ (some 183) _ = _
                    simp only [Act.put, List.setIfInBounds_toArray, List.set_cons_zero, List.set_cons_succ, i64_w, i32_w]
                    rfl
                   refine pure_ (i := 5) (N := some 178) (v := ?_) (a' := ?_) #[true, true, true, true, true, true, false, false, false, false, false] rfl rfl (any_of HT_.out kk) (fun _ _ _ h => h) (Or.inl ⟨by rfl, ?_⟩) ?_ ?_
                   rotate_left
                   ·intro w'
                    go_simp
                    with_reducible rfl
                   rotate_left
                   ·simp only [Act.put, List.setIfInBounds_toArray, List.set_cons_zero, List.set_cons_succ, i64_w, i32_w]
                    rfl
                   refine pure_ (i := 6) (N := some 184) (v := ?_) (a' := ?_) #[true, true, true, true, true, true, true, false, false, false, false] rfl rfl (any_of HT_.out kk) (fun _ _ _ h => h) (Or.inl ⟨by rfl, ?_⟩) ?_ ?_
                   rotate_left
                   ·intro w'
                    go_simp
                    with_reducible rfl
                   rotate_left
                   ·simp only [Act.put, List.setIfInBounds_toArray, List.set_cons_zero, List.set_cons_succ, i64_w, i32_w]
                    rfl
                   refine pure_ (i := 7) (N := some 185) (v := ?_) (a' := ?_) #[true, true, true, true, true, true, true, true, false, false, false] rfl rfl (any_of HT_.out kk) (fun _ _ _ h => h) (Or.inl ⟨by rfl, ?_⟩) ?_ ?_
                   rotate_left
                   ·intro w'
                    go_simp
                    with_reducible rfl
                   rotate_left
                   ·simp only [Act.put, List.setIfInBounds_toArray, List.set_cons_zero, List.set_cons_succ, i64_w, i32_w]
                    rfl
                   refine one_ (i := 8) (N := some 21) #[true, true, true, true, true, true, true, true, true, false, false] rfl rfl (one_of HT_.out kk) (by decide) (fun K hK => ?_)
                   refine box_step ?hg (N := 21) ?hd (cs := #[.int .i64 0, .slice none 0 0]) (t := 37) ?hr ?_; (case hd => rfl); (case hg => rfl); (case hr => first | (go_simp; done) | (go_simp; rfl))
                   intro gb437 hg w140 hbox hb
                   have n0_ := am (Kd.R_below (by (with_reducible repeat (first | apply Kd.R_alloc | apply Kd.R_drewN | apply Kd.R_drew)); exact HO_399001.out) hb)
                   have n1_ := am (Kd.R_below (by (with_reducible repeat (first | apply Kd.R_alloc | apply Kd.R_drewN | apply Kd.R_drew)); exact HO_418001.out) hb)
                   have n2_ := am (Kd.R_below (by (with_reducible repeat (first | apply Kd.R_alloc | apply Kd.R_drewN | apply Kd.R_drew)); exact HO427.out) hb)
                   have n3_ := am (Kd.R_below (by (with_reducible repeat (first | apply Kd.R_alloc | apply Kd.R_drewN | apply Kd.R_drew)); exact HO431.out) hb)
                   have n4_ := am (Kd.R_below (by (with_reducible repeat (first | apply Kd.R_alloc | apply Kd.R_drewN | apply Kd.R_drew)); exact HO435.out) hb)
                   have n5_ := bb BK370 hb
                   have n6_ := bb BK371 hb
                   have n7_ := bb BK398 hb
                   have n8_ := bb BK417 hb
                   have n9_ := am (below_step pw hb)
                   have n10_ := am (hbox)
                   have n11_ := am ((by rw [hg]; exact (below_size pw) : w.heap.size ≤ gb437))
                   have n12_ := am ((by rw [hg]; exact (below_size pw) : w.heap.size ≤ gb437))
                   have n13_ := am ((by rw [hg]; exact Nat.ne_of_lt (blk_lt pk) : gb370 ≠ gb437))
                   have n14_ := am ((by rw [hg]; exact Nat.ne_of_gt (blk_lt pk) : gb437 ≠ gb370))
                   have n15_ := am ((by rw [hg]; exact Nat.ne_of_lt (blk_lt pk) : gb371 ≠ gb437))
                   have n16_ := am ((by rw [hg]; exact Nat.ne_of_gt (blk_lt pk) : gb437 ≠ gb371))
                   have n17_ := am ((by rw [hg]; exact Nat.ne_of_lt (blk_lt pk) : gb398 ≠ gb437))
                   have n18_ := am ((by rw [hg]; exact Nat.ne_of_gt (blk_lt pk) : gb437 ≠ gb398))
                   have n19_ := am ((by rw [hg]; exact Nat.ne_of_lt (blk_lt pk) : gb417 ≠ gb437))
                   have n20_ := am ((by rw [hg]; exact Nat.ne_of_gt (blk_lt pk) : gb437 ≠ gb417))
                   clear HO_399001 HO_418001 HO427 HO431 HO435 BK370 BK371 BK398 BK417 HB
                   revert n0_ n1_ n2_ n3_ n4_ n5_ n6_ n7_ n8_ n9_ n10_ n11_ n12_ n13_ n14_ n15_ n16_ n17_ n18_ n19_ n20_
                   intro HO_399001 HO_418001 HO427 HO431 HO435 BK370 BK371 BK398 BK417 HB BK437 GW437 GE437 NB370_437 NB437_370 NB371_437 NB437_371 NB398_437 NB437_398 NB417_437 NB437_417
                   clear hb hbox hg
                   refine hK.out _ _ ⟨bc BK370 0, bc BK370 1, bc BK371 0, bc BK371 1⟩ (fun hHeld => ?_)
                   clear hK K
                   refine norm_ (a' := ?_) ?_ ?_
                   rotate_left
                   ·show Act.put _ (some 21) _ = _
                    simp only [Act.put, List.setIfInBounds_toArray, List.set_cons_zero, List.set_cons_succ, i64_w, i32_w]
                    rfl
                   exact norm_ (by simp only [putAll, Act.put, List.setIfInBounds_toArray, List.set_cons_zero, List.set_cons_succ, errW_none, errW_some]) (hCont (.slice Ao137 t425.length co137, .slice Ao138 t429.length co138, v434, gb437) _ ⟨hHeld, (by (with_reducible repeat (first | apply Kd.R_alloc | apply Kd.R_drewN | apply Kd.R_drew)); exact Kd.R_mono HO427.out (fun _ hk => ⟨hk.1.2, ⟨hk.2, ⟨hk.1.1.1.2, hk.1.1.2⟩⟩⟩)), (by (with_reducible repeat (first | apply Kd.R_alloc | apply Kd.R_drewN | apply Kd.R_drew)); exact Kd.R_mono HO431.out (fun _ hk => ⟨hk.1.2, ⟨hk.2, ⟨hk.1.1.1.2, hk.1.1.2⟩⟩⟩)), (by (with_reducible repeat (first | apply Kd.R_alloc | apply Kd.R_drewN | apply Kd.R_drew)); exact Kd.R_mono HO435.out (fun _ hk => ⟨hk.1.2, ⟨hk.2, ⟨hk.1.1.1.2, hk.1.1.2⟩⟩⟩)), (by (with_reducible repeat (first | apply Kd.R_alloc | apply Kd.R_drewN | apply Kd.R_drew)); exact Kd.R_mono HO_399001.out (fun _ hk => ⟨hk.1.1.2, ⟨hk.1.2, ⟨hk.2, hk.1.1.1⟩⟩⟩)), (by (with_reducible repeat (first | apply Kd.R_alloc | apply Kd.R_drewN | apply Kd.R_drew)); exact Kd.R_mono HO_418001.out (fun _ hk => ⟨hk.1.1.2, ⟨hk.1.2, ⟨hk.2, hk.1.1.1⟩⟩⟩)), pk, pk, pk, pk, pk, GW437.out, GE437.out, NB370_437.out, NB437_370.out, NB371_437.out, NB437_371.out, NB398_437.out, NB437_398.out, NB417_437.out, NB437_417.out, pw⟩)
                  skip
                  refine box_step ?hg (N := 21) ?hd (cs := #[.int .i64 0, .slice none 0 0]) (t := 37) ?hr ?_; (case hd => rfl); (case hg => rfl); (case hr => first | (go_simp; done) | (go_simp; rfl))
                  intro gb437 hg w137 hbox hb
                  have n0_ := am (Kd.R_below (by (with_reducible repeat (first | apply Kd.R_alloc | apply Kd.R_drewN | apply Kd.R_drew)); exact HO_399001.out) hb)
                  have n1_ := am (Kd.R_below (by (with_reducible repeat (first | apply Kd.R_alloc | apply Kd.R_drewN | apply Kd.R_drew)); exact HO_418001.out) hb)
                  have n2_ := am (Kd.R_below (by (with_reducible repeat (first | apply Kd.R_alloc | apply Kd.R_drewN | apply Kd.R_drew)); exact HO427.out) hb)
                  have n3_ := am (Kd.R_below (by (with_reducible repeat (first | apply Kd.R_alloc | apply Kd.R_drewN | apply Kd.R_drew)); exact HO431.out) hb)
                  have n4_ := bb BK370 hb
                  have n5_ := bb BK371 hb
                  have n6_ := bb BK398 hb
                  have n7_ := bb BK417 hb
                  have n8_ := am (below_step pw hb)
                  have n9_ := am (hbox)
                  have n10_ := am ((by rw [hg]; exact (below_size pw) : w.heap.size ≤ gb437))
                  have n11_ := am ((by rw [hg]; exact (below_size pw) : w.heap.size ≤ gb437))
                  have n12_ := am ((by rw [hg]; exact Nat.ne_of_lt (blk_lt pk) : gb370 ≠ gb437))
                  have n13_ := am ((by rw [hg]; exact Nat.ne_of_gt (blk_lt pk) : gb437 ≠ gb370))
                  have n14_ := am ((by rw [hg]; exact Nat.ne_of_lt (blk_lt pk) : gb371 ≠ gb437))
                  have n15_ := am ((by rw [hg]; exact Nat.ne_of_gt (blk_lt pk) : gb437 ≠ gb371))
                  have n16_ := am ((by rw [hg]; exact Nat.ne_of_lt (blk_lt pk) : gb398 ≠ gb437))
                  have n17_ := am ((by rw [hg]; exact Nat.ne_of_gt (blk_lt pk) : gb437 ≠ gb398))
                  have n18_ := am ((by rw [hg]; exact Nat.ne_of_lt (blk_lt pk) : gb417 ≠ gb437))
                  have n19_ := am ((by rw [hg]; exact Nat.ne_of_gt (blk_lt pk) : gb437 ≠ gb417))
                  clear HO_399001 HO_418001 HO427 HO431 BK370 BK371 BK398 BK417 HB
                  revert n0_ n1_ n2_ n3_ n4_ n5_ n6_ n7_ n8_ n9_ n10_ n11_ n12_ n13_ n14_ n15_ n16_ n17_ n18_ n19_
                  intro HO_399001 HO_418001 HO427 HO431 BK370 BK371 BK398 BK417 HB BK437 GW437 GE437 NB370_437 NB437_370 NB371_437 NB437_371 NB398_437 NB437_398 NB417_437 NB437_417
                  clear hb hbox hg
                  obtain ⟨Ao138, co138, eo138⟩ := Kd.R_slice HO427.out
                  (first | subst eo138 | (injection eo138 with f1_ f2_ f3_; have f4_ := f1_.symm; have f5_ := f3_.symm; clear f1_ f2_ f3_; subst f4_; subst f5_))
                  obtain ⟨Ao139, co139, eo139⟩ := Kd.R_slice HO431.out
                  (first | subst eo139 | (injection eo139 with f1_ f2_ f3_; have f4_ := f1_.symm; have f5_ := f3_.symm; clear f1_ f2_ f3_; subst f4_; subst f5_))
                  refine hK.out _ _ ⟨bc BK370 0, bc BK370 1, bc BK371 0, bc BK371 1⟩ (fun hHeld => ?_)
                  clear hK K
                  refine norm_ (a' := ?_) ?_ ?_
                  rotate_left
                  ·show Act.put _ (some 21) _ = _
                   simp only [Act.put, List.setIfInBounds_toArray, List.set_cons_zero, List.set_cons_succ, i64_w, i32_w]
                   rfl
                  refine one_ (i := 4) (N := some 183) #[true, true, true, true, true, false, false, false, true, false, false] rfl rfl (one_of HT_.out kk) (by decide) (fun K hK => ?_)
                  refine goes_ Tryd.func46 kk rfl #[.agg #[.int .i64 t424, .slice Ao138 t425.length co138], .agg #[.int .i64 t428, .slice Ao139 t429.length co139]] (by rfl) rfl rfl (by (try simp only [List.map_toArray, List.map_cons, List.map_nil]); first | done | rfl | (simp only [List.length_drop, List.length_take]; rfl)) ?_
                  with_reducible refine (zone_Join.calls t424 _ _ t425 t428 _ _ t429 t432 t433 none _ ?side1 ?side2 ?side3 ?side4 A131.out (am (ErrAt.below hE2.out pw)).out (am (ErrAt.below hE3.out pw)).out (am (ErrAt.below hE4.out pw)).out).mono ?_
                  (case side1 => repeat (first | exact (Kd.R_reads' HO427.out).2.2 | (with_reducible refine Kd.C_alloc ?_ _) | (with_reducible refine Kd.C_drewN ?_ _) | (with_reducible refine Kd.C_drew ?_)))
                  (case side2 => exact (Kd.R_reads' HO427.out).2.1)
                  (case side3 => repeat (first | exact (Kd.R_reads' HO431.out).2.2 | (with_reducible refine Kd.C_alloc ?_ _) | (with_reducible refine Kd.C_drewN ?_ _) | (with_reducible refine Kd.C_drew ?_)))
                  (case side4 => exact (Kd.R_reads' HO431.out).2.1)
                  rintro e w140 ⟨v434, rfl, ho0, hb⟩
                  refine ⟨_, rfl, ?_⟩
                  have n0_ := am (Kd.R_elder' (by (with_reducible repeat (first | apply Kd.R_alloc | apply Kd.R_drewN | apply Kd.R_drew)); exact HO_399001.out) (Kd.R_base ho0) hb)
                  have n1_ := am (Kd.R_elder' (by (with_reducible repeat (first | apply Kd.R_alloc | apply Kd.R_drewN | apply Kd.R_drew)); exact HO_418001.out) (Kd.R_base ho0) hb)
                  have n2_ := am (Kd.R_elder' (by (with_reducible repeat (first | apply Kd.R_alloc | apply Kd.R_drewN | apply Kd.R_drew)); exact HO427.out) (Kd.R_base ho0) hb)
                  have n3_ := am (Kd.R_elder' (by (with_reducible repeat (first | apply Kd.R_alloc | apply Kd.R_drewN | apply Kd.R_drew)); exact HO431.out) (Kd.R_base ho0) hb)
                  have n4_ := am (Kd.R_lower (Kd.R_new' (Kd.R_new' (Kd.R_new' (Kd.R_new' ho0 (Kd.R_lt (by (with_reducible repeat (first | apply Kd.R_alloc | apply Kd.R_drewN | apply Kd.R_drew)); exact HO_399001.out))) (Kd.R_lt (by (with_reducible repeat (first | apply Kd.R_alloc | apply Kd.R_drewN | apply Kd.R_drew)); exact HO_418001.out))) (Kd.R_lt (by (with_reducible repeat (first | apply Kd.R_alloc | apply Kd.R_drewN | apply Kd.R_drew)); exact HO427.out))) (Kd.R_lt (by (with_reducible repeat (first | apply Kd.R_alloc | apply Kd.R_drewN | apply Kd.R_drew)); exact HO431.out))) (below_size pw))
                  have n5_ := bb BK370 hb
                  have n6_ := bb BK371 hb
                  have n7_ := bb BK398 hb
                  have n8_ := bb BK417 hb
                  have n9_ := bb BK437 hb
                  have n10_ := am (below_step pw hb)
                  clear HO_399001 HO_418001 HO427 HO431 BK370 BK371 BK398 BK417 BK437 HB
                  revert n0_ n1_ n2_ n3_ n4_ n5_ n6_ n7_ n8_ n9_ n10_
                  intro HO_399001 HO_418001 HO427 HO431 HO435 BK370 BK371 BK398 BK417 BK437 HB
                  (try clear hb)
                  (try clear hb2)
                  (try clear hk)
                  (try clear hi)
                  (try clear ho0)
                  (try simp only [errW_none, errW_some])
                  refine hK.out _ _ ⟨bc BK370 0, bc BK370 1, bc BK371 0, bc BK371 1⟩ (fun hHeld => ?_)
                  clear hK K
                  refine norm_ (a' := ?_) ?_ ?_
                  rotate_left
                  ·show Act.put _ (some 183) _ = _
                   simp only [Act.put, List.setIfInBounds_toArray, List.set_cons_zero, List.set_cons_succ, i64_w, i32_w]
                   rfl
                  refine pure_ (i := 5) (N := some 178) (v := ?_) (a' := ?_) #[true, true, true, true, true, true, false, false, true, false, false] rfl rfl (any_of HT_.out kk) (fun _ _ _ h => h) (Or.inl ⟨by rfl, ?_⟩) ?_ ?_
                  rotate_left
                  ·intro w'
                   go_simp
                   with_reducible rfl
                  rotate_left
                  ·simp only [Act.put, List.setIfInBounds_toArray, List.set_cons_zero, List.set_cons_succ, i64_w, i32_w]
                   rfl
                  refine pure_ (i := 6) (N := some 184) (v := ?_) (a' := ?_) #[true, true, true, true, true, true, true, false, true, false, false] rfl rfl (any_of HT_.out kk) (fun _ _ _ h => h) (Or.inl ⟨by rfl, ?_⟩) ?_ ?_
                  rotate_left
                  ·intro w'
                   go_simp
                   with_reducible rfl
                  rotate_left
                  ·simp only [Act.put, List.setIfInBounds_toArray, List.set_cons_zero, List.set_cons_succ, i64_w, i32_w]
                   rfl
                  refine pure_ (i := 7) (N := some 185) (v := ?_) (a' := ?_) #[true, true, true, true, true, true, true, true, true, false, false] rfl rfl (any_of HT_.out kk) (fun _ _ _ h => h) (Or.inl ⟨by rfl, ?_⟩) ?_ ?_
                  rotate_left
                  ·intro w'
                   go_simp
                   with_reducible rfl
                  rotate_left
                  ·simp only [Act.put, List.setIfInBounds_toArray, List.set_cons_zero, List.set_cons_succ, i64_w, i32_w]
                   rfl
                  exact norm_ (by simp only [putAll, Act.put, List.setIfInBounds_toArray, List.set_cons_zero, List.set_cons_succ, errW_none, errW_some]) (hCont (.slice Ao138 t425.length co138, .slice Ao139 t429.length co139, v434, gb437) _ ⟨hHeld, (by (with_reducible repeat (first | apply Kd.R_alloc | apply Kd.R_drewN | apply Kd.R_drew)); exact Kd.R_mono HO427.out (fun _ hk => ⟨hk.1.2, ⟨hk.2, ⟨hk.1.1.1.2, hk.1.1.2⟩⟩⟩)), (by (with_reducible repeat (first | apply Kd.R_alloc | apply Kd.R_drewN | apply Kd.R_drew)); exact Kd.R_mono HO431.out (fun _ hk => ⟨hk.1.2, ⟨hk.2, ⟨hk.1.1.1.2, hk.1.1.2⟩⟩⟩)), (by (with_reducible repeat (first | apply Kd.R_alloc | apply Kd.R_drewN | apply Kd.R_drew)); exact Kd.R_mono HO435.out (fun _ hk => ⟨hk.1.2, ⟨hk.2, ⟨hk.1.1.1.2, hk.1.1.2⟩⟩⟩)), (by (with_reducible repeat (first | apply Kd.R_alloc | apply Kd.R_drewN | apply Kd.R_drew)); exact Kd.R_mono HO_399001.out (fun _ hk => ⟨hk.1.1.2, ⟨hk.1.2, ⟨hk.2, hk.1.1.1⟩⟩⟩)), (by (with_reducible repeat (first | apply Kd.R_alloc | apply Kd.R_drewN | apply Kd.R_drew)); exact Kd.R_mono HO_418001.out (fun _ hk => ⟨hk.1.1.2, ⟨hk.1.2, ⟨hk.2, hk.1.1.1⟩⟩⟩)), pk, pk, pk, pk, pk, GW437.out, GE437.out, NB370_437.out, NB437_370.out, NB371_437.out, NB437_371.out, NB398_437.out, NB437_398.out, NB417_437.out, NB437_417.out, pw⟩)
                 skip
                 refine box_step ?hg (N := 21) ?hd (cs := #[.int .i64 0, .slice none 0 0]) (t := 37) ?hr ?_; (case hd => rfl); (case hg => rfl); (case hr => first | (go_simp; done) | (go_simp; rfl))
                 intro gb437 hg w136 hbox hb
                 have n0_ := am (Kd.R_below (by (with_reducible repeat (first | apply Kd.R_alloc | apply Kd.R_drewN | apply Kd.R_drew)); exact HO_399001.out) hb)
                 have n1_ := am (Kd.R_below (by (with_reducible repeat (first | apply Kd.R_alloc | apply Kd.R_drewN | apply Kd.R_drew)); exact HO_418001.out) hb)
                 have n2_ := am (Kd.R_below (by (with_reducible repeat (first | apply Kd.R_alloc | apply Kd.R_drewN | apply Kd.R_drew)); exact HO427.out) hb)
                 have n3_ := bb BK370 hb
                 have n4_ := bb BK371 hb
                 have n5_ := bb BK398 hb
                 have n6_ := bb BK417 hb
                 have n7_ := am (below_step pw hb)
                 have n8_ := am (hbox)
                 have n9_ := am ((by rw [hg]; exact (below_size pw) : w.heap.size ≤ gb437))
                 have n10_ := am ((by rw [hg]; exact (below_size pw) : w.heap.size ≤ gb437))
                 have n11_ := am ((by rw [hg]; exact Nat.ne_of_lt (blk_lt pk) : gb370 ≠ gb437))
                 have n12_ := am ((by rw [hg]; exact Nat.ne_of_gt (blk_lt pk) : gb437 ≠ gb370))
                 have n13_ := am ((by rw [hg]; exact Nat.ne_of_lt (blk_lt pk) : gb371 ≠ gb437))
                 have n14_ := am ((by rw [hg]; exact Nat.ne_of_gt (blk_lt pk) : gb437 ≠ gb371))
                 have n15_ := am ((by rw [hg]; exact Nat.ne_of_lt (blk_lt pk) : gb398 ≠ gb437))
                 have n16_ := am ((by rw [hg]; exact Nat.ne_of_gt (blk_lt pk) : gb437 ≠ gb398))
                 have n17_ := am ((by rw [hg]; exact Nat.ne_of_lt (blk_lt pk) : gb417 ≠ gb437))
                 have n18_ := am ((by rw [hg]; exact Nat.ne_of_gt (blk_lt pk) : gb437 ≠ gb417))
                 clear HO_399001 HO_418001 HO427 BK370 BK371 BK398 BK417 HB
                 revert n0_ n1_ n2_ n3_ n4_ n5_ n6_ n7_ n8_ n9_ n10_ n11_ n12_ n13_ n14_ n15_ n16_ n17_ n18_
                 intro HO_399001 HO_418001 HO427 BK370 BK371 BK398 BK417 HB BK437 GW437 GE437 NB370_437 NB437_370 NB371_437 NB437_371 NB398_437 NB437_398 NB417_437 NB437_417
                 clear hb hbox hg
                 refine hK.out _ _ ⟨bc BK370 0, bc BK370 1, bc BK371 0, bc BK371 1⟩ (fun hHeld => ?_)
                 clear hK K
                 refine norm_ (a' := ?_) ?_ ?_
                 rotate_left
                 ·show Act.put _ (some 21) _ = _
                  simp only [Act.put, List.setIfInBounds_toArray, List.set_cons_zero, List.set_cons_succ, i64_w, i32_w]
                  rfl
                 refine one_ (i := 3) (N := some 182) #[true, true, true, true, false, false, false, false, true, false, false] rfl rfl (one_of HT_.out kk) (by decide) (fun K hK => ?_)
                 refine goes_ Tryd.func23 kk rfl #[.agg #[.int .i64 a1_0, .slice A1_1 l1_1.length c1_1]] (by rfl) rfl rfl (by (try simp only [List.map_toArray, List.map_cons, List.map_nil]); first | done | rfl | (simp only [List.length_drop, List.length_take]; rfl)) ?_
                 with_reducible refine (L2_zoneOf.calls kj121 a1_0 _ _ l1_1 t428 t429 _ ?side1 ?side2 A130.out).mono ?_
                 (case side1 => repeat (first | exact (Kd.C_below HR1_1.out HB.out) | (with_reducible refine Kd.C_alloc ?_ _) | (with_reducible refine Kd.C_drewN ?_ _) | (with_reducible refine Kd.C_drew ?_)))
                 (case side2 => exact HC1_1.out)
                 rintro e w137 ⟨v430, rfl, ho0, hb⟩
                 refine ⟨_, rfl, ?_⟩
                 have n0_ := am (Kd.R_elder' (by (with_reducible repeat (first | apply Kd.R_alloc | apply Kd.R_drewN | apply Kd.R_drew)); exact HO_399001.out) (Kd.R_base ho0) hb)
                 have n1_ := am (Kd.R_elder' (by (with_reducible repeat (first | apply Kd.R_alloc | apply Kd.R_drewN | apply Kd.R_drew)); exact HO_418001.out) (Kd.R_base ho0) hb)
                 have n2_ := am (Kd.R_elder' (by (with_reducible repeat (first | apply Kd.R_alloc | apply Kd.R_drewN | apply Kd.R_drew)); exact HO427.out) (Kd.R_base ho0) hb)
                 have n3_ := am (Kd.R_lower (Kd.R_new' (Kd.R_new' (Kd.R_new' ho0 (Kd.R_lt (by (with_reducible repeat (first | apply Kd.R_alloc | apply Kd.R_drewN | apply Kd.R_drew)); exact HO_399001.out))) (Kd.R_lt (by (with_reducible repeat (first | apply Kd.R_alloc | apply Kd.R_drewN | apply Kd.R_drew)); exact HO_418001.out))) (Kd.R_lt (by (with_reducible repeat (first | apply Kd.R_alloc | apply Kd.R_drewN | apply Kd.R_drew)); exact HO427.out))) (below_size pw))
                 have n4_ := bb BK370 hb
                 have n5_ := bb BK371 hb
                 have n6_ := bb BK398 hb
                 have n7_ := bb BK417 hb
                 have n8_ := bb BK437 hb
                 have n9_ := am (below_step pw hb)
                 clear HO_399001 HO_418001 HO427 BK370 BK371 BK398 BK417 BK437 HB
                 revert n0_ n1_ n2_ n3_ n4_ n5_ n6_ n7_ n8_ n9_
                 intro HO_399001 HO_418001 HO427 HO431 BK370 BK371 BK398 BK417 BK437 HB
                 (try clear hb)
                 (try clear hb2)
                 (try clear hk)
                 (try clear hi)
                 (try clear ho0)
                 obtain ⟨Ao138, co138, eo138⟩ := Kd.R_slice HO427.out
                 (first | subst eo138 | (injection eo138 with f1_ f2_ f3_; have f4_ := f1_.symm; have f5_ := f3_.symm; clear f1_ f2_ f3_; subst f4_; subst f5_))
                 obtain ⟨Ao139, co139, eo139⟩ := Kd.R_slice HO431.out
                 (first | subst eo139 | (injection eo139 with f1_ f2_ f3_; have f4_ := f1_.symm; have f5_ := f3_.symm; clear f1_ f2_ f3_; subst f4_; subst f5_))
                 refine hK.out _ _ ⟨bc BK370 0, bc BK370 1, bc BK371 0, bc BK371 1⟩ (fun hHeld => ?_)
                 clear hK K
                 refine norm_ (a' := ?_) ?_ ?_
                 rotate_left
                 ·show Act.put _ (some 182) _ = _
                  simp only [Act.put, List.setIfInBounds_toArray, List.set_cons_zero, List.set_cons_succ, i64_w, i32_w]
                  rfl
                 refine one_ (i := 4) (N := some 183) #[true, true, true, true, true, false, false, false, true, false, false] rfl rfl (one_of HT_.out kk) (by decide) (fun K hK => ?_)
                 refine goes_ Tryd.func46 kk rfl #[.agg #[.int .i64 t424, .slice Ao138 t425.length co138], .agg #[.int .i64 t428, .slice Ao139 t429.length co139]] (by rfl) rfl rfl (by (try simp only [List.map_toArray, List.map_cons, List.map_nil]); first | done | rfl | (simp only [List.length_drop, List.length_take]; rfl)) ?_
                 with_reducible refine (zone_Join.calls t424 _ _ t425 t428 _ _ t429 t432 t433 none _ ?side1 ?side2 ?side3 ?side4 A131.out (am (ErrAt.below hE2.out pw)).out (am (ErrAt.below hE3.out pw)).out (am (ErrAt.below hE4.out pw)).out).mono ?_
                 (case side1 => repeat (first | exact (Kd.R_reads' HO427.out).2.2 | (with_reducible refine Kd.C_alloc ?_ _) | (with_reducible refine Kd.C_drewN ?_ _) | (with_reducible refine Kd.C_drew ?_)))
                 (case side2 => exact (Kd.R_reads' HO427.out).2.1)
                 (case side3 => repeat (first | exact (Kd.R_reads' HO431.out).2.2 | (with_reducible refine Kd.C_alloc ?_ _) | (with_reducible refine Kd.C_drewN ?_ _) | (with_reducible refine Kd.C_drew ?_)))
                 (case side4 => exact (Kd.R_reads' HO431.out).2.1)
                 rintro e w140 ⟨v434, rfl, ho0, hb⟩
                 refine ⟨_, rfl, ?_⟩
                 have n0_ := am (Kd.R_elder' (by (with_reducible repeat (first | apply Kd.R_alloc | apply Kd.R_drewN | apply Kd.R_drew)); exact HO_399001.out) (Kd.R_base ho0) hb)
                 have n1_ := am (Kd.R_elder' (by (with_reducible repeat (first | apply Kd.R_alloc | apply Kd.R_drewN | apply Kd.R_drew)); exact HO_418001.out) (Kd.R_base ho0) hb)
                 have n2_ := am (Kd.R_elder' (by (with_reducible repeat (first | apply Kd.R_alloc | apply Kd.R_drewN | apply Kd.R_drew)); exact HO427.out) (Kd.R_base ho0) hb)
                 have n3_ := am (Kd.R_elder' (by (with_reducible repeat (first | apply Kd.R_alloc | apply Kd.R_drewN | apply Kd.R_drew)); exact HO431.out) (Kd.R_base ho0) hb)
                 have n4_ := am (Kd.R_lower (Kd.R_new' (Kd.R_new' (Kd.R_new' (Kd.R_new' ho0 (Kd.R_lt (by (with_reducible repeat (first | apply Kd.R_alloc | apply Kd.R_drewN | apply Kd.R_drew)); exact HO_399001.out))) (Kd.R_lt (by (with_reducible repeat (first | apply Kd.R_alloc | apply Kd.R_drewN | apply Kd.R_drew)); exact HO_418001.out))) (Kd.R_lt (by (with_reducible repeat (first | apply Kd.R_alloc | apply Kd.R_drewN | apply Kd.R_drew)); exact HO427.out))) (Kd.R_lt (by (with_reducible repeat (first | apply Kd.R_alloc | apply Kd.R_drewN | apply Kd.R_drew)); exact HO431.out))) (below_size pw))
                 have n5_ := bb BK370 hb
                 have n6_ := bb BK371 hb
                 have n7_ := bb BK398 hb
                 have n8_ := bb BK417 hb
                 have n9_ := bb BK437 hb
                 have n10_ := am (below_step pw hb)
                 clear HO_399001 HO_418001 HO427 HO431 BK370 BK371 BK398 BK417 BK437 HB
                 revert n0_ n1_ n2_ n3_ n4_ n5_ n6_ n7_ n8_ n9_ n10_
                 intro HO_399001 HO_418001 HO427 HO431 HO435 BK370 BK371 BK398 BK417 BK437 HB
                 (try clear hb)
                 (try clear hb2)
                 (try clear hk)
                 (try clear hi)
                 (try clear ho0)
                 (try simp only [errW_none, errW_some])
                 refine hK.out _ _ ⟨bc BK370 0, bc BK370 1, bc BK371 0, bc BK371 1⟩ (fun hHeld => ?_)
                 clear hK K
                 refine norm_ (a' := ?_) ?_ ?_
                 rotate_left
                 ·show Act.put _ (some 183) _ = _
                  simp only [Act.put, List.setIfInBounds_toArray, List.set_cons_zero, List.set_cons_succ, i64_w, i32_w]
                  rfl
                 refine pure_ (i := 5) (N := some 178) (v := ?_) (a' := ?_) #[true, true, true, true, true, true, false, false, true, false, false] rfl rfl (any_of HT_.out kk) (fun _ _ _ h => h) (Or.inl ⟨by rfl, ?_⟩) ?_ ?_
                 rotate_left
                 ·intro w'
                  go_simp
                  with_reducible rfl
                 rotate_left
                 ·simp only [Act.put, List.setIfInBounds_toArray, List.set_cons_zero, List.set_cons_succ, i64_w, i32_w]
                  rfl
                 refine pure_ (i := 6) (N := some 184) (v := ?_) (a' := ?_) #[true, true, true, true, true, true, true, false, true, false, false] rfl rfl (any_of HT_.out kk) (fun _ _ _ h => h) (Or.inl ⟨by rfl, ?_⟩) ?_ ?_
                 rotate_left
                 ·intro w'
                  go_simp
                  with_reducible rfl
                 rotate_left
                 ·simp only [Act.put, List.setIfInBounds_toArray, List.set_cons_zero, List.set_cons_succ, i64_w, i32_w]
                  rfl
                 refine pure_ (i := 7) (N := some 185) (v := ?_) (a' := ?_) #[true, true, true, true, true, true, true, true, true, false, false] rfl rfl (any_of HT_.out kk) (fun _ _ _ h => h) (Or.inl ⟨by rfl, ?_⟩) ?_ ?_
                 rotate_left
                 ·intro w'
                  go_simp
                  with_reducible rfl
                 rotate_left
                 ·simp only [Act.put, List.setIfInBounds_toArray, List.set_cons_zero, List.set_cons_succ, i64_w, i32_w]
                  rfl
                 exact norm_ (by simp only [putAll, Act.put, List.setIfInBounds_toArray, List.set_cons_zero, List.set_cons_succ, errW_none, errW_some]) (hCont (.slice Ao138 t425.length co138, .slice Ao139 t429.length co139, v434, gb437) _ ⟨hHeld, (by (with_reducible repeat (first | apply Kd.R_alloc | apply Kd.R_drewN | apply Kd.R_drew)); exact Kd.R_mono HO427.out (fun _ hk => ⟨hk.1.2, ⟨hk.2, ⟨hk.1.1.1.2, hk.1.1.2⟩⟩⟩)), (by (with_reducible repeat (first | apply Kd.R_alloc | apply Kd.R_drewN | apply Kd.R_drew)); exact Kd.R_mono HO431.out (fun _ hk => ⟨hk.1.2, ⟨hk.2, ⟨hk.1.1.1.2, hk.1.1.2⟩⟩⟩)), (by (with_reducible repeat (first | apply Kd.R_alloc | apply Kd.R_drewN | apply Kd.R_drew)); exact Kd.R_mono HO435.out (fun _ hk => ⟨hk.1.2, ⟨hk.2, ⟨hk.1.1.1.2, hk.1.1.2⟩⟩⟩)), (by (with_reducible repeat (first | apply Kd.R_alloc | apply Kd.R_drewN | apply Kd.R_drew)); exact Kd.R_mono HO_399001.out (fun _ hk => ⟨hk.1.1.2, ⟨hk.1.2, ⟨hk.2, hk.1.1.1⟩⟩⟩)), (by (with_reducible repeat (first | apply Kd.R_alloc | apply Kd.R_drewN | apply Kd.R_drew)); exact Kd.R_mono HO_418001.out (fun _ hk => ⟨hk.1.1.2, ⟨hk.1.2, ⟨hk.2, hk.1.1.1⟩⟩⟩)), pk, pk, pk, pk, pk, GW437.out, GE437.out, NB370_437.out, NB437_370.out, NB371_437.out, NB437_371.out, NB398_437.out, NB437_398.out, NB417_437.out, NB437_417.out, pw⟩)
                skip
                refine box_step ?hg (N := 21) ?hd (cs := #[.int .i64 0, .slice none 0 0]) (t := 37) ?hr ?_; (case hd => rfl); (case hg => rfl); (case hr => first | (go_simp; done) | (go_simp; rfl))
                intro gb437 hg w135 hbox hb
                have n0_ := am (Kd.R_below (by (with_reducible repeat (first | apply Kd.R_alloc | apply Kd.R_drewN | apply Kd.R_drew)); exact HO_399001.out) hb)
                have n1_ := am (Kd.R_below (by (with_reducible repeat (first | apply Kd.R_alloc | apply Kd.R_drewN | apply Kd.R_drew)); exact HO_418001.out) hb)
                have n2_ := bb BK370 hb
                have n3_ := bb BK371 hb
                have n4_ := bb BK398 hb
                have n5_ := bb BK417 hb
                have n6_ := am (below_step pw hb)
                have n7_ := am (hbox)
                have n8_ := am ((by rw [hg]; exact (below_size pw) : w.heap.size ≤ gb437))
                have n9_ := am ((by rw [hg]; exact (below_size pw) : w.heap.size ≤ gb437))
                have n10_ := am ((by rw [hg]; exact Nat.ne_of_lt (blk_lt pk) : gb370 ≠ gb437))
                have n11_ := am ((by rw [hg]; exact Nat.ne_of_gt (blk_lt pk) : gb437 ≠ gb370))
                have n12_ := am ((by rw [hg]; exact Nat.ne_of_lt (blk_lt pk) : gb371 ≠ gb437))
                have n13_ := am ((by rw [hg]; exact Nat.ne_of_gt (blk_lt pk) : gb437 ≠ gb371))
                have n14_ := am ((by rw [hg]; exact Nat.ne_of_lt (blk_lt pk) : gb398 ≠ gb437))
                have n15_ := am ((by rw [hg]; exact Nat.ne_of_gt (blk_lt pk) : gb437 ≠ gb398))
                have n16_ := am ((by rw [hg]; exact Nat.ne_of_lt (blk_lt pk) : gb417 ≠ gb437))
                have n17_ := am ((by rw [hg]; exact Nat.ne_of_gt (blk_lt pk) : gb437 ≠ gb417))
                clear HO_399001 HO_418001 BK370 BK371 BK398 BK417 HB
                revert n0_ n1_ n2_ n3_ n4_ n5_ n6_ n7_ n8_ n9_ n10_ n11_ n12_ n13_ n14_ n15_ n16_ n17_
                intro HO_399001 HO_418001 BK370 BK371 BK398 BK417 HB BK437 GW437 GE437 NB370_437 NB437_370 NB371_437 NB437_371 NB398_437 NB437_398 NB417_437 NB437_417
                clear hb hbox hg
                refine hK.out _ _ ⟨bc BK370 0, bc BK370 1, bc BK371 0, bc BK371 1⟩ (fun hHeld => ?_)
                clear hK K
                refine norm_ (a' := ?_) ?_ ?_
                rotate_left
                ·show Act.put _ (some 21) _ = _
                 simp only [Act.put, List.setIfInBounds_toArray, List.set_cons_zero, List.set_cons_succ, i64_w, i32_w]
                 rfl
                refine one_ (i := 1) (N := some 180) #[true, true, true, false, false, false, false, false, true, false, false] rfl rfl (one_of HT_.out kk) (by decide) (fun K hK => ?_)
                refine goes_ Tryd.func23 kk rfl #[.agg #[.int .i64 a0_0, .slice A0_1 l0_1.length c0_1]] (by rfl) rfl rfl (by (try simp only [List.map_toArray, List.map_cons, List.map_nil]); first | done | rfl | (simp only [List.length_drop, List.length_take]; rfl)) ?_
                with_reducible refine (L2_zoneOf.calls kj121 a0_0 _ _ l0_1 t424 t425 _ ?side1 ?side2 A129.out).mono ?_
                (case side1 => repeat (first | exact (Kd.C_below HR0_1.out HB.out) | (with_reducible refine Kd.C_alloc ?_ _) | (with_reducible refine Kd.C_drewN ?_ _) | (with_reducible refine Kd.C_drew ?_)))
                (case side2 => exact HC0_1.out)
                rintro e w136 ⟨v426, rfl, ho0, hb⟩
                refine ⟨_, rfl, ?_⟩
                have n0_ := am (Kd.R_elder' (by (with_reducible repeat (first | apply Kd.R_alloc | apply Kd.R_drewN | apply Kd.R_drew)); exact HO_399001.out) (Kd.R_base ho0) hb)
                have n1_ := am (Kd.R_elder' (by (with_reducible repeat (first | apply Kd.R_alloc | apply Kd.R_drewN | apply Kd.R_drew)); exact HO_418001.out) (Kd.R_base ho0) hb)
                have n2_ := am (Kd.R_lower (Kd.R_new' (Kd.R_new' ho0 (Kd.R_lt (by (with_reducible repeat (first | apply Kd.R_alloc | apply Kd.R_drewN | apply Kd.R_drew)); exact HO_399001.out))) (Kd.R_lt (by (with_reducible repeat (first | apply Kd.R_alloc | apply Kd.R_drewN | apply Kd.R_drew)); exact HO_418001.out))) (below_size pw))
                have n3_ := bb BK370 hb
                have n4_ := bb BK371 hb
                have n5_ := bb BK398 hb
                have n6_ := bb BK417 hb
                have n7_ := bb BK437 hb
                have n8_ := am (below_step pw hb)
                clear HO_399001 HO_418001 BK370 BK371 BK398 BK417 BK437 HB
                revert n0_ n1_ n2_ n3_ n4_ n5_ n6_ n7_ n8_
                intro HO_399001 HO_418001 HO427 BK370 BK371 BK398 BK417 BK437 HB
                (try clear hb)
                (try clear hb2)
                (try clear hk)
                (try clear hi)
                (try clear ho0)
                refine hK.out _ _ ⟨bc BK370 0, bc BK370 1, bc BK371 0, bc BK371 1⟩ (fun hHeld => ?_)
                clear hK K
                refine norm_ (a' := ?_) ?_ ?_
                rotate_left
                ·show Act.put _ (some 180) _ = _
                 simp only [Act.put, List.setIfInBounds_toArray, List.set_cons_zero, List.set_cons_succ, i64_w, i32_w]
                 rfl
                refine one_ (i := 3) (N := some 182) #[true, true, true, true, false, false, false, false, true, false, false] rfl rfl (one_of HT_.out kk) (by decide) (fun K hK => ?_)
                refine goes_ Tryd.func23 kk rfl #[.agg #[.int .i64 a1_0, .slice A1_1 l1_1.length c1_1]] (by rfl) rfl rfl (by (try simp only [List.map_toArray, List.map_cons, List.map_nil]); first | done | rfl | (simp only [List.length_drop, List.length_take]; rfl)) ?_
                with_reducible refine (L2_zoneOf.calls kj121 a1_0 _ _ l1_1 t428 t429 _ ?side1 ?side2 A130.out).mono ?_
                (case side1 => repeat (first | exact (Kd.C_below HR1_1.out HB.out) | (with_reducible refine Kd.C_alloc ?_ _) | (with_reducible refine Kd.C_drewN ?_ _) | (with_reducible refine Kd.C_drew ?_)))
                (case side2 => exact HC1_1.out)
                rintro e w137 ⟨v430, rfl, ho0, hb⟩
                refine ⟨_, rfl, ?_⟩
                have n0_ := am (Kd.R_elder' (by (with_reducible repeat (first | apply Kd.R_alloc | apply Kd.R_drewN | apply Kd.R_drew)); exact HO_399001.out) (Kd.R_base ho0) hb)
                have n1_ := am (Kd.R_elder' (by (with_reducible repeat (first | apply Kd.R_alloc | apply Kd.R_drewN | apply Kd.R_drew)); exact HO_418001.out) (Kd.R_base ho0) hb)
                have n2_ := am (Kd.R_elder' (by (with_reducible repeat (first | apply Kd.R_alloc | apply Kd.R_drewN | apply Kd.R_drew)); exact HO427.out) (Kd.R_base ho0) hb)
                have n3_ := am (Kd.R_lower (Kd.R_new' (Kd.R_new' (Kd.R_new' ho0 (Kd.R_lt (by (with_reducible repeat (first | apply Kd.R_alloc | apply Kd.R_drewN | apply Kd.R_drew)); exact HO_399001.out))) (Kd.R_lt (by (with_reducible repeat (first | apply Kd.R_alloc | apply Kd.R_drewN | apply Kd.R_drew)); exact HO_418001.out))) (Kd.R_lt (by (with_reducible repeat (first | apply Kd.R_alloc | apply Kd.R_drewN | apply Kd.R_drew)); exact HO427.out))) (below_size pw))
                have n4_ := bb BK370 hb
                have n5_ := bb BK371 hb
                have n6_ := bb BK398 hb
                have n7_ := bb BK417 hb
                have n8_ := bb BK437 hb
                have n9_ := am (below_step pw hb)
                clear HO_399001 HO_418001 HO427 BK370 BK371 BK398 BK417 BK437 HB
                revert n0_ n1_ n2_ n3_ n4_ n5_ n6_ n7_ n8_ n9_
                intro HO_399001 HO_418001 HO427 HO431 BK370 BK371 BK398 BK417 BK437 HB
                (try clear hb)
                (try clear hb2)
                (try clear hk)
                (try clear hi)
                (try clear ho0)
                obtain ⟨Ao138, co138, eo138⟩ := Kd.R_slice HO427.out
                (first | subst eo138 | (injection eo138 with f1_ f2_ f3_; have f4_ := f1_.symm; have f5_ := f3_.symm; clear f1_ f2_ f3_; subst f4_; subst f5_))
                obtain ⟨Ao139, co139, eo139⟩ := Kd.R_slice HO431.out
                (first | subst eo139 | (injection eo139 with f1_ f2_ f3_; have f4_ := f1_.symm; have f5_ := f3_.symm; clear f1_ f2_ f3_; subst f4_; subst f5_))
                refine hK.out _ _ ⟨bc BK370 0, bc BK370 1, bc BK371 0, bc BK371 1⟩ (fun hHeld => ?_)
                clear hK K
                refine norm_ (a' := ?_) ?_ ?_
                rotate_left
                ·show Act.put _ (some 182) _ = _
                 simp only [Act.put, List.setIfInBounds_toArray, List.set_cons_zero, List.set_cons_succ, i64_w, i32_w]
                 rfl
                refine one_ (i := 4) (N := some 183) #[true, true, true, true, true, false, false, false, true, false, false] rfl rfl (one_of HT_.out kk) (by decide) (fun K hK => ?_)
                refine goes_ Tryd.func46 kk rfl #[.agg #[.int .i64 t424, .slice Ao138 t425.length co138], .agg #[.int .i64 t428, .slice Ao139 t429.length co139]] (by rfl) rfl rfl (by (try simp only [List.map_toArray, List.map_cons, List.map_nil]); first | done | rfl | (simp only [List.length_drop, List.length_take]; rfl)) ?_
                with_reducible refine (zone_Join.calls t424 _ _ t425 t428 _ _ t429 t432 t433 none _ ?side1 ?side2 ?side3 ?side4 A131.out (am (ErrAt.below hE2.out pw)).out (am (ErrAt.below hE3.out pw)).out (am (ErrAt.below hE4.out pw)).out).mono ?_
                (case side1 => repeat (first | exact (Kd.R_reads' HO427.out).2.2 | (with_reducible refine Kd.C_alloc ?_ _) | (with_reducible refine Kd.C_drewN ?_ _) | (with_reducible refine Kd.C_drew ?_)))
                (case side2 => exact (Kd.R_reads' HO427.out).2.1)
                (case side3 => repeat (first | exact (Kd.R_reads' HO431.out).2.2 | (with_reducible refine Kd.C_alloc ?_ _) | (with_reducible refine Kd.C_drewN ?_ _) | (with_reducible refine Kd.C_drew ?_)))
                (case side4 => exact (Kd.R_reads' HO431.out).2.1)
                rintro e w140 ⟨v434, rfl, ho0, hb⟩
                refine ⟨_, rfl, ?_⟩
                have n0_ := am (Kd.R_elder' (by (with_reducible repeat (first | apply Kd.R_alloc | apply Kd.R_drewN | apply Kd.R_drew)); exact HO_399001.out) (Kd.R_base ho0) hb)
                have n1_ := am (Kd.R_elder' (by (with_reducible repeat (first | apply Kd.R_alloc | apply Kd.R_drewN | apply Kd.R_drew)); exact HO_418001.out) (Kd.R_base ho0) hb)
                have n2_ := am (Kd.R_elder' (by (with_reducible repeat (first | apply Kd.R_alloc | apply Kd.R_drewN | apply Kd.R_drew)); exact HO427.out) (Kd.R_base ho0) hb)
                have n3_ := am (Kd.R_elder' (by (with_reducible repeat (first | apply Kd.R_alloc | apply Kd.R_drewN | apply Kd.R_drew)); exact HO431.out) (Kd.R_base ho0) hb)
                have n4_ := am (Kd.R_lower (Kd.R_new' (Kd.R_new' (Kd.R_new' (Kd.R_new' ho0 (Kd.R_lt (by (with_reducible repeat (first | apply Kd.R_alloc | apply Kd.R_drewN | apply Kd.R_drew)); exact HO_399001.out))) (Kd.R_lt (by (with_reducible repeat (first | apply Kd.R_alloc | apply Kd.R_drewN | apply Kd.R_drew)); exact HO_418001.out))) (Kd.R_lt (by (with_reducible repeat (first | apply Kd.R_alloc | apply Kd.R_drewN | apply Kd.R_drew)); exact HO427.out))) (Kd.R_lt (by (with_reducible repeat (first | apply Kd.R_alloc | apply Kd.R_drewN | apply Kd.R_drew)); exact HO431.out))) (below_size pw))
                have n5_ := bb BK370 hb
                have n6_ := bb BK371 hb
                have n7_ := bb BK398 hb
                have n8_ := bb BK417 hb
                have n9_ := bb BK437 hb
                have n10_ := am (below_step pw hb)
                clear HO_399001 HO_418001 HO427 HO431 BK370 BK371 BK398 BK417 BK437 HB
                revert n0_ n1_ n2_ n3_ n4_ n5_ n6_ n7_ n8_ n9_ n10_
                intro HO_399001 HO_418001 HO427 HO431 HO435 BK370 BK371 BK398 BK417 BK437 HB
                (try clear hb)
                (try clear hb2)
                (try clear hk)
                (try clear hi)
                (try clear ho0)
                (try simp only [errW_none, errW_some])
                refine hK.out _ _ ⟨bc BK370 0, bc BK370 1, bc BK371 0, bc BK371 1⟩ (fun hHeld => ?_)
                clear hK K
                refine norm_ (a' := ?_) ?_ ?_
                rotate_left
                ·show Act.put _ (some 183) _ = _
                 simp only [Act.put, List.setIfInBounds_toArray, List.set_cons_zero, List.set_cons_succ, i64_w, i32_w]
                 rfl
                refine pure_ (i := 5) (N := some 178) (v := ?_) (a' := ?_) #[true, true, true, true, true, true, false, false, true, false, false] rfl rfl (any_of HT_.out kk) (fun _ _ _ h => h) (Or.inl ⟨by rfl, ?_⟩) ?_ ?_
                rotate_left
                ·intro w'
                 go_simp
                 with_reducible rfl
                rotate_left
                ·simp only [Act.put, List.setIfInBounds_toArray, List.set_cons_zero, List.set_cons_succ, i64_w, i32_w]
                 rfl
                refine pure_ (i := 6) (N := some 184) (v := ?_) (a' := ?_) #[true, true, true, true, true, true, true, false, true, false, false] rfl rfl (any_of HT_.out kk) (fun _ _ _ h => h) (Or.inl ⟨by rfl, ?_⟩) ?_ ?_
                rotate_left
                ·intro w'
                 go_simp
                 with_reducible rfl
                rotate_left
                ·simp only [Act.put, List.setIfInBounds_toArray, List.set_cons_zero, List.set_cons_succ, i64_w, i32_w]
                 rfl
                refine pure_ (i := 7) (N := some 185) (v := ?_) (a' := ?_) #[true, true, true, true, true, true, true, true, true, false, false] rfl rfl (any_of HT_.out kk) (fun _ _ _ h => h) (Or.inl ⟨by rfl, ?_⟩) ?_ ?_
                rotate_left
                ·intro w'
                 go_simp
                 with_reducible rfl
                rotate_left
                ·simp only [Act.put, List.setIfInBounds_toArray, List.set_cons_zero, List.set_cons_succ, i64_w, i32_w]
                 rfl
                exact norm_ (by simp only [putAll, Act.put, List.setIfInBounds_toArray, List.set_cons_zero, List.set_cons_succ, errW_none, errW_some]) (hCont (.slice Ao138 t425.length co138, .slice Ao139 t429.length co139, v434, gb437) _ ⟨hHeld, (by (with_reducible repeat (first | apply Kd.R_alloc | apply Kd.R_drewN | apply Kd.R_drew)); exact Kd.R_mono HO427.out (fun _ hk => ⟨hk.1.2, ⟨hk.2, ⟨hk.1.1.1.2, hk.1.1.2⟩⟩⟩)), (by (with_reducible repeat (first | apply Kd.R_alloc | apply Kd.R_drewN | apply Kd.R_drew)); exact Kd.R_mono HO431.out (fun _ hk => ⟨hk.1.2, ⟨hk.2, ⟨hk.1.1.1.2, hk.1.1.2⟩⟩⟩)), (by (with_reducible repeat (first | apply Kd.R_alloc | apply Kd.R_drewN | apply Kd.R_drew)); exact Kd.R_mono HO435.out (fun _ hk => ⟨hk.1.2, ⟨hk.2, ⟨hk.1.1.1.2, hk.1.1.2⟩⟩⟩)), (by (with_reducible repeat (first | apply Kd.R_alloc | apply Kd.R_drewN | apply Kd.R_drew)); exact Kd.R_mono HO_399001.out (fun _ hk => ⟨hk.1.1.2, ⟨hk.1.2, ⟨hk.2, hk.1.1.1⟩⟩⟩)), (by (with_reducible repeat (first | apply Kd.R_alloc | apply Kd.R_drewN | apply Kd.R_drew)); exact Kd.R_mono HO_418001.out (fun _ hk => ⟨hk.1.1.2, ⟨hk.1.2, ⟨hk.2, hk.1.1.1⟩⟩⟩)), pk, pk, pk, pk, pk, GW437.out, GE437.out, NB370_437.out, NB437_370.out, NB371_437.out, NB437_371.out, NB398_437.out, NB437_398.out, NB417_437.out, NB437_417.out, pw⟩)
               rintro ⟨v426, v430, v434, gb437⟩ w141 ⟨hS_, h0_, h1_, h2_, h3_, h4_, h5_, h6_, h7_, h8_, h9_, h10_, h11_, h12_, h13_, h14_, h15_, h16_, h17_, h18_, h19_, h20_⟩
               have n0_ : Aside0 (Kd.R k42 42 w141 w.heap.size (fun k_ => some k_ ≠ (v430 : Value).ownBlock ∧ some k_ ≠ (v434 : Value).ownBlock ∧ some k_ ≠ (.slice Ao77 t393.length co77 : Value).ownBlock ∧ some k_ ≠ (.slice Ao108 t412.length co108 : Value).ownBlock) v426 t425) := ⟨h0_⟩
               have n1_ : Aside0 (Kd.R k42 42 w141 w.heap.size (fun k_ => some k_ ≠ (v426 : Value).ownBlock ∧ some k_ ≠ (v434 : Value).ownBlock ∧ some k_ ≠ (.slice Ao77 t393.length co77 : Value).ownBlock ∧ some k_ ≠ (.slice Ao108 t412.length co108 : Value).ownBlock) v430 t429) := ⟨h1_⟩
               have n2_ : Aside0 (Kd.R k42 42 w141 w.heap.size (fun k_ => some k_ ≠ (v426 : Value).ownBlock ∧ some k_ ≠ (v430 : Value).ownBlock ∧ some k_ ≠ (.slice Ao77 t393.length co77 : Value).ownBlock ∧ some k_ ≠ (.slice Ao108 t412.length co108 : Value).ownBlock) v434 t433) := ⟨h2_⟩
               have n3_ : Aside0 (Kd.R k42 42 w141 w.heap.size (fun k_ => some k_ ≠ (v426 : Value).ownBlock ∧ some k_ ≠ (v430 : Value).ownBlock ∧ some k_ ≠ (v434 : Value).ownBlock ∧ some k_ ≠ (.slice Ao108 t412.length co108 : Value).ownBlock) (.slice Ao77 t393.length co77) t393) := ⟨h3_⟩
               have n4_ : Aside0 (Kd.R k42 42 w141 w.heap.size (fun k_ => some k_ ≠ (v426 : Value).ownBlock ∧ some k_ ≠ (v430 : Value).ownBlock ∧ some k_ ≠ (v434 : Value).ownBlock ∧ some k_ ≠ (.slice Ao77 t393.length co77 : Value).ownBlock) (.slice Ao108 t412.length co108) t412) := ⟨h4_⟩
               have n5_ : Aside0 (w141.heap[gb370]? = some (.cells #[.int .i64 a0_0, .slice A0_1 l0_1.length c0_1] 33 (0, 0))) := ⟨h5_⟩
               have n6_ : Aside0 (w141.heap[gb371]? = some (.cells #[.int .i64 a1_0, .slice A1_1 l1_1.length c1_1] 33 (0, 0))) := ⟨h6_⟩
               have n7_ : Aside0 (w141.heap[gb398]? = some (.cells #[.int .i64 t392, .slice Ao77 t393.length co77] 37 (0, 0))) := ⟨h7_⟩
               have n8_ : Aside0 (w141.heap[gb417]? = some (.cells #[.int .i64 t411, .slice Ao108 t412.length co108] 37 (0, 0))) := ⟨h8_⟩
               have n9_ : Aside0 (w141.heap[gb437]? = some (.cells #[.int .i64 0, .slice none 0 0] 37 (0, 0))) := ⟨h9_⟩
               have n10_ : Aside0 (w.heap.size ≤ gb437) := ⟨h10_⟩
               have n11_ : Aside0 (w.heap.size ≤ gb437) := ⟨h11_⟩
               have n12_ : Aside0 (gb370 ≠ gb437) := ⟨h12_⟩
               have n13_ : Aside0 (gb437 ≠ gb370) := ⟨h13_⟩
               have n14_ : Aside0 (gb371 ≠ gb437) := ⟨h14_⟩
               have n15_ : Aside0 (gb437 ≠ gb371) := ⟨h15_⟩
               have n16_ : Aside0 (gb398 ≠ gb437) := ⟨h16_⟩
               have n17_ : Aside0 (gb437 ≠ gb398) := ⟨h17_⟩
               have n18_ : Aside0 (gb417 ≠ gb437) := ⟨h18_⟩
               have n19_ : Aside0 (gb437 ≠ gb417) := ⟨h19_⟩
               have n20_ : Aside0 (Below w.heap.size w w141) := ⟨h20_⟩
               clear HO_399001
               clear HO_418001
               clear BK370
               clear BK371
               clear BK398
               clear BK417
               clear HB
               clear h0_ h1_ h2_ h3_ h4_ h5_ h6_ h7_ h8_ h9_ h10_ h11_ h12_ h13_ h14_ h15_ h16_ h17_ h18_ h19_ h20_
               revert n0_ n1_ n2_ n3_ n4_ n5_ n6_ n7_ n8_ n9_ n10_ n11_ n12_ n13_ n14_ n15_ n16_ n17_ n18_ n19_ n20_
               intro HO427 HO431 HO435 HO_399001 HO_418001 BK370 BK371 BK398 BK417 BK437 GW437 GE437 NB370_437 NB437_370 NB371_437 NB437_371 NB398_437 NB437_398 NB417_437 NB437_417 HB
               have hHeld : w141.cell? ⟨gb370, 0, none⟩ = some (.int .i64 a0_0) ∧ w141.cell? ⟨gb370, 1, none⟩ = some (.slice A0_1 l0_1.length c0_1) ∧ w141.cell? ⟨gb371, 0, none⟩ = some (.int .i64 a1_0) ∧ w141.cell? ⟨gb371, 1, none⟩ = some (.slice A1_1 l1_1.length c1_1) := hS_
               obtain ⟨Ao143, co143, eo143⟩ := Kd.R_slice HO435.out
               (first | subst eo143 | (injection eo143 with f1_ f2_ f3_; have f4_ := f1_.symm; have f5_ := f3_.symm; clear f1_ f2_ f3_; subst f4_; subst f5_))
               refine norm_ (a' := ?_) ?_ ?_
               rotate_left
               ·simp only [putAll, Act.put, List.setIfInBounds_toArray, List.set_cons_zero, List.set_cons_succ]
                rfl
               refine one_ (i := 9) (N := none) #[true, true, true, true, true, true, true, true, true, true, false] rfl rfl (one_of HT_.out kk) (by decide) (fun K hK => ?_)
               have hs142 : w141.cell? ⟨gb437, 0, none⟩ = some (.int .i64 0) := bc BK437 0
               have hfs142 := blk_frozen BK437.out 0
               have hns142_0 := NB370_437.out
               have hns142_1 := NB371_437.out
               have hns142_2 := NB398_437.out
               have hns142_3 := NB417_437.out
               have hms142_0 := NB437_370.out
               have hms142_1 := NB437_371.out
               have hms142_2 := NB437_398.out
               have hms142_3 := NB437_417.out
               have hs144 : w141.cell? ⟨gb437, 1, none⟩ = some (.slice none 0 0) := bc BK437 1
               have hfs144 := blk_frozen BK437.out 1
               have hns144_0 := NB370_437.out
               have hns144_1 := NB371_437.out
               have hns144_2 := NB398_437.out
               have hns144_3 := NB417_437.out
               have hms144_0 := NB437_370.out
               have hms144_1 := NB437_371.out
               have hms144_2 := NB437_398.out
               have hms144_3 := NB437_417.out
               refine skip_ (w1 := ?_) (by rfl) rfl ?_ ?_
               rotate_left
               ·go_simp
                rfl
               refine hK.out _ _ ⟨((cell_far (p := ⟨gb437, _, none⟩) NB370_437.out _).trans (((cell_far (p := ⟨gb437, _, none⟩) NB370_437.out _).trans (hHeld.1)))), ((cell_far (p := ⟨gb437, _, none⟩) NB370_437.out _).trans (((cell_far (p := ⟨gb437, _, none⟩) NB370_437.out _).trans (hHeld.2.1)))), ((cell_far (p := ⟨gb437, _, none⟩) NB371_437.out _).trans (((cell_far (p := ⟨gb437, _, none⟩) NB371_437.out _).trans (hHeld.2.2.1)))), ((cell_far (p := ⟨gb437, _, none⟩) NB371_437.out _).trans (((cell_far (p := ⟨gb437, _, none⟩) NB371_437.out _).trans (hHeld.2.2.2))))⟩ (fun hHeld => ?_)
               clear hK K
               refine pure_ (i := 10) (N := some 15) (v := ?_) (a' := ?_) #[true, true, true, true, true, true, true, true, true, true, true] rfl rfl (any_of HT_.out kk) (fun _ _ _ h => h) (Or.inl ⟨by rfl, ?_⟩) ?_ ?_
               rotate_left
               ·intro w'
                go_simp
                with_reducible rfl
               rotate_left
               ·simp only [Act.put, List.setIfInBounds_toArray, List.set_cons_zero, List.set_cons_succ, i64_w, i32_w]
                rfl
               refine done_ (done_of HT_.out kk) ?_
               (try simp only [errW_none, errW_some])
               try go_wp2
               have n0_ : Aside0 (Kd.R k42 42 ((w141.setCell ⟨gb437, 0, none⟩ (.int .i64 t432)).setCell ⟨gb437, 1, none⟩ (.slice Ao143 t433.length co143)) w.heap.size (fun k_ => some k_ ≠ (.slice Ao108 t412.length co108 : Value).ownBlock ∧ some k_ ≠ (v426 : Value).ownBlock ∧ some k_ ≠ (v430 : Value).ownBlock ∧ some k_ ≠ (.slice Ao143 t433.length co143 : Value).ownBlock) (.slice Ao77 t393.length co77) t393) := ⟨by (with_reducible repeat (first | apply Kd.R_alloc | apply Kd.R_drewN | apply Kd.R_drew)); exact Kd.R_mono (Kd.R_far (p := ⟨gb437, 1, none⟩) (Kd.R_far (p := ⟨gb437, 0, none⟩) (Kd.R_types HO_399001.out BK437.out (by decide)) (fun _ hk => hk.2) (.int .i64 t432)) (fun _ hk => hk.2) (.slice Ao143 t433.length co143)) (fun _ hk => ⟨hk.1.2.2.2, ⟨hk.1.1, ⟨hk.1.2.1, hk.1.2.2.1⟩⟩⟩)⟩
               have n1_ : Aside0 (Kd.R k42 42 ((w141.setCell ⟨gb437, 0, none⟩ (.int .i64 t432)).setCell ⟨gb437, 1, none⟩ (.slice Ao143 t433.length co143)) w.heap.size (fun k_ => some k_ ≠ (.slice Ao77 t393.length co77 : Value).ownBlock ∧ some k_ ≠ (v426 : Value).ownBlock ∧ some k_ ≠ (v430 : Value).ownBlock ∧ some k_ ≠ (.slice Ao143 t433.length co143 : Value).ownBlock) (.slice Ao108 t412.length co108) t412) := ⟨by (with_reducible repeat (first | apply Kd.R_alloc | apply Kd.R_drewN | apply Kd.R_drew)); exact Kd.R_mono (Kd.R_far (p := ⟨gb437, 1, none⟩) (Kd.R_far (p := ⟨gb437, 0, none⟩) (Kd.R_types HO_418001.out BK437.out (by decide)) (fun _ hk => hk.2) (.int .i64 t432)) (fun _ hk => hk.2) (.slice Ao143 t433.length co143)) (fun _ hk => ⟨hk.1.2.2.2, ⟨hk.1.1, ⟨hk.1.2.1, hk.1.2.2.1⟩⟩⟩)⟩
               have n2_ : Aside0 (Kd.R k42 42 ((w141.setCell ⟨gb437, 0, none⟩ (.int .i64 t432)).setCell ⟨gb437, 1, none⟩ (.slice Ao143 t433.length co143)) w.heap.size (fun k_ => some k_ ≠ (.slice Ao77 t393.length co77 : Value).ownBlock ∧ some k_ ≠ (.slice Ao108 t412.length co108 : Value).ownBlock ∧ some k_ ≠ (v430 : Value).ownBlock ∧ some k_ ≠ (.slice Ao143 t433.length co143 : Value).ownBlock) v426 t425) := ⟨by (with_reducible repeat (first | apply Kd.R_alloc | apply Kd.R_drewN | apply Kd.R_drew)); exact Kd.R_mono (Kd.R_far (p := ⟨gb437, 1, none⟩) (Kd.R_far (p := ⟨gb437, 0, none⟩) (Kd.R_types HO427.out BK437.out (by decide)) (fun _ hk => hk.2) (.int .i64 t432)) (fun _ hk => hk.2) (.slice Ao143 t433.length co143)) (fun _ hk => ⟨hk.1.2.2.1, ⟨hk.1.2.2.2, ⟨hk.1.1, hk.1.2.1⟩⟩⟩)⟩
               have n3_ : Aside0 (Kd.R k42 42 ((w141.setCell ⟨gb437, 0, none⟩ (.int .i64 t432)).setCell ⟨gb437, 1, none⟩ (.slice Ao143 t433.length co143)) w.heap.size (fun k_ => some k_ ≠ (.slice Ao77 t393.length co77 : Value).ownBlock ∧ some k_ ≠ (.slice Ao108 t412.length co108 : Value).ownBlock ∧ some k_ ≠ (v426 : Value).ownBlock ∧ some k_ ≠ (.slice Ao143 t433.length co143 : Value).ownBlock) v430 t429) := ⟨by (with_reducible repeat (first | apply Kd.R_alloc | apply Kd.R_drewN | apply Kd.R_drew)); exact Kd.R_mono (Kd.R_far (p := ⟨gb437, 1, none⟩) (Kd.R_far (p := ⟨gb437, 0, none⟩) (Kd.R_types HO431.out BK437.out (by decide)) (fun _ hk => hk.2) (.int .i64 t432)) (fun _ hk => hk.2) (.slice Ao143 t433.length co143)) (fun _ hk => ⟨hk.1.2.2.1, ⟨hk.1.2.2.2, ⟨hk.1.1, hk.1.2.1⟩⟩⟩)⟩
               have n4_ : Aside0 (Kd.R k42 42 ((w141.setCell ⟨gb437, 0, none⟩ (.int .i64 t432)).setCell ⟨gb437, 1, none⟩ (.slice Ao143 t433.length co143)) w.heap.size (fun k_ => some k_ ≠ (.slice Ao77 t393.length co77 : Value).ownBlock ∧ some k_ ≠ (.slice Ao108 t412.length co108 : Value).ownBlock ∧ some k_ ≠ (v426 : Value).ownBlock ∧ some k_ ≠ (v430 : Value).ownBlock) (.slice Ao143 t433.length co143) t433) := ⟨by (with_reducible repeat (first | apply Kd.R_alloc | apply Kd.R_drewN | apply Kd.R_drew)); exact Kd.R_mono (Kd.R_far (p := ⟨gb437, 1, none⟩) (Kd.R_far (p := ⟨gb437, 0, none⟩) (Kd.R_types HO435.out BK437.out (by decide)) (fun _ hk => hk.2) (.int .i64 t432)) (fun _ hk => hk.2) (.slice Ao143 t433.length co143)) (fun _ hk => ⟨hk.1.2.2.1, ⟨hk.1.2.2.2, ⟨hk.1.1, hk.1.2.1⟩⟩⟩)⟩
               have n5_ : Aside0 (((w141.setCell ⟨gb437, 0, none⟩ (.int .i64 t432)).setCell ⟨gb437, 1, none⟩ (.slice Ao143 t433.length co143)).heap[gb370]? = some (.cells #[.int .i64 a0_0, .slice A0_1 l0_1.length c0_1] 33 (0, 0))) := ⟨by (with_reducible repeat (first | refine blk_drewN ?_ _ | refine blk_drew ?_ | refine blk_alloc ?_ _)); refine blk_far ?_ NB370_437.out _; (with_reducible repeat (first | refine blk_drewN ?_ _ | refine blk_drew ?_ | refine blk_alloc ?_ _)); refine blk_far ?_ NB370_437.out _; (with_reducible repeat (first | refine blk_drewN ?_ _ | refine blk_drew ?_ | refine blk_alloc ?_ _)); exact BK370.out⟩
               have n6_ : Aside0 (((w141.setCell ⟨gb437, 0, none⟩ (.int .i64 t432)).setCell ⟨gb437, 1, none⟩ (.slice Ao143 t433.length co143)).heap[gb371]? = some (.cells #[.int .i64 a1_0, .slice A1_1 l1_1.length c1_1] 33 (0, 0))) := ⟨by (with_reducible repeat (first | refine blk_drewN ?_ _ | refine blk_drew ?_ | refine blk_alloc ?_ _)); refine blk_far ?_ NB371_437.out _; (with_reducible repeat (first | refine blk_drewN ?_ _ | refine blk_drew ?_ | refine blk_alloc ?_ _)); refine blk_far ?_ NB371_437.out _; (with_reducible repeat (first | refine blk_drewN ?_ _ | refine blk_drew ?_ | refine blk_alloc ?_ _)); exact BK371.out⟩
               have n7_ : Aside0 (((w141.setCell ⟨gb437, 0, none⟩ (.int .i64 t432)).setCell ⟨gb437, 1, none⟩ (.slice Ao143 t433.length co143)).heap[gb398]? = some (.cells #[.int .i64 t392, .slice Ao77 t393.length co77] 37 (0, 0))) := ⟨by (with_reducible repeat (first | refine blk_drewN ?_ _ | refine blk_drew ?_ | refine blk_alloc ?_ _)); refine blk_far ?_ NB398_437.out _; (with_reducible repeat (first | refine blk_drewN ?_ _ | refine blk_drew ?_ | refine blk_alloc ?_ _)); refine blk_far ?_ NB398_437.out _; (with_reducible repeat (first | refine blk_drewN ?_ _ | refine blk_drew ?_ | refine blk_alloc ?_ _)); exact BK398.out⟩
               have n8_ : Aside0 (((w141.setCell ⟨gb437, 0, none⟩ (.int .i64 t432)).setCell ⟨gb437, 1, none⟩ (.slice Ao143 t433.length co143)).heap[gb417]? = some (.cells #[.int .i64 t411, .slice Ao108 t412.length co108] 37 (0, 0))) := ⟨by (with_reducible repeat (first | refine blk_drewN ?_ _ | refine blk_drew ?_ | refine blk_alloc ?_ _)); refine blk_far ?_ NB417_437.out _; (with_reducible repeat (first | refine blk_drewN ?_ _ | refine blk_drew ?_ | refine blk_alloc ?_ _)); refine blk_far ?_ NB417_437.out _; (with_reducible repeat (first | refine blk_drewN ?_ _ | refine blk_drew ?_ | refine blk_alloc ?_ _)); exact BK417.out⟩
               have n9_ : Aside0 (((w141.setCell ⟨gb437, 0, none⟩ (.int .i64 t432)).setCell ⟨gb437, 1, none⟩ (.slice Ao143 t433.length co143)).heap[gb437]? = some (.cells #[.int .i64 t432, .slice Ao143 t433.length co143] 37 (0, 0))) := ⟨by (with_reducible repeat (first | refine blk_drewN ?_ _ | refine blk_drew ?_ | refine blk_alloc ?_ _)); refine blk_put (cs := #[.int .i64 t432, .slice none 0 0]) ?_ 1 _ rfl; (with_reducible repeat (first | refine blk_drewN ?_ _ | refine blk_drew ?_ | refine blk_alloc ?_ _)); refine blk_put (cs := #[.int .i64 0, .slice none 0 0]) ?_ 0 _ rfl; (with_reducible repeat (first | refine blk_drewN ?_ _ | refine blk_drew ?_ | refine blk_alloc ?_ _)); exact BK437.out⟩
               have n10_ : Aside0 (Below w.heap.size w ((w141.setCell ⟨gb437, 0, none⟩ (.int .i64 t432)).setCell ⟨gb437, 1, none⟩ (.slice Ao143 t433.length co143))) := ⟨pw⟩
               (try clear HO_399001)
               (try clear HO_418001)
               (try clear HO427)
               (try clear HO431)
               (try clear HO435)
               (try clear BK370)
               (try clear BK371)
               (try clear BK398)
               (try clear BK417)
               (try clear BK437)
               (try clear HB)
               generalize ((w141.setCell ⟨gb437, 0, none⟩ (.int .i64 t432)).setCell ⟨gb437, 1, none⟩ (.slice Ao143 t433.length co143)) = w145 at n0_ n1_ n2_ n3_ n4_ n5_ n6_ n7_ n8_ n9_ n10_ ⊢
               revert n0_ n1_ n2_ n3_ n4_ n5_ n6_ n7_ n8_ n9_ n10_
               intro HO_399001 HO_418001 HO427 HO431 HO435 BK370 BK371 BK398 BK417 BK437 HB
               have n0_ := am (Kd.R_drew HO_399001.out)
               have n1_ := am (Kd.R_drew HO_418001.out)
               have n2_ := am (Kd.R_drew HO427.out)
               have n3_ := am (Kd.R_drew HO431.out)
               have n4_ := am (Kd.R_drew HO435.out)
               have n5_ := am (blk_drew BK370.out)
               have n6_ := am (blk_drew BK371.out)
               have n7_ := am (blk_drew BK398.out)
               have n8_ := am (blk_drew BK417.out)
               have n9_ := am (blk_drew BK437.out)
               have n10_ := am (below_drew1 HB.out)
               clear HO_399001 HO_418001 HO427 HO431 HO435 BK370 BK371 BK398 BK417 BK437 HB
               revert n0_ n1_ n2_ n3_ n4_ n5_ n6_ n7_ n8_ n9_ n10_
               intro HO_399001 HO_418001 HO427 HO431 HO435 BK370 BK371 BK398 BK417 BK437 HB
               refine start_ (n := 9) (S := fun w' => w'.cell? ⟨gb437, 0, none⟩ = some (.int .i64 t432) ∧ w'.cell? ⟨gb437, 1, none⟩ = some (.slice Ao143 t433.length co143)) (ds := []) #[false, false, false, false, false, false, false, false, false] kk rfl rfl ⟨bc BK437 0, bc BK437 1⟩ (fun hHeld => ?_); refine with_tabW L2_ZoneSound.tab31 L2_ZoneSound.bits31 (fun HT_ HW_ => ?_)
               generalize w145.drew = w146 at HO_399001 HO_418001 HO427 HO431 HO435 BK370 BK371 BK398 BK417 BK437 HB hHeld ⊢
               refine pure_ (i := 1) (N := some 190) (v := ?_) (a' := ?_) #[false, true, false, false, false, false, false, false, false] rfl rfl (any_of HT_.out kk) (fun _ _ _ h => h) (Or.inl ⟨by rfl, ?_⟩) ?_ ?_
               rotate_left
               ·intro w'
                go_simp
                with_reducible rfl
               rotate_left
               ·simp only [Act.put, List.setIfInBounds_toArray, List.set_cons_zero, List.set_cons_succ, i64_w, i32_w]
                rfl
               refine take_ (i := 0) (N := some 189) (v := ?_) (a' := ?_) #[true, true, false, false, false, false, false, false, false] rfl rfl (take_ofW HT_.out HW_.out kk) (fun _ _ _ h => h) (Or.inl ⟨by rfl, ?_⟩) hHeld ?_ ?_
               rotate_left
               ·rintro w' ⟨s0, s1⟩
                go_simp
                with_reducible rfl
               rotate_left
               ·simp only [Act.put, List.setIfInBounds_toArray, List.set_cons_zero, List.set_cons_succ, i64_w, i32_w]
                rfl
               refine one_ (i := 2) (N := some 191) #[true, true, true, false, false, false, false, false, false] rfl rfl (one_of HT_.out kk) (by decide) (fun K hK => ?_)
               refine goes_ Tryd.func28 kk rfl #[.slice A2 l2.length c2] (by rfl) rfl rfl (by (try simp only [List.map_toArray, List.map_cons, List.map_nil]); first | done | rfl | (simp only [List.length_drop, List.length_take]; rfl)) ?_
               with_reducible refine (L2_ints.calls _ _ l2 t439 _ ?side1 ?side2 A132.out).mono ?_
               (case side1 => repeat (first | exact (Kd.C_below HR2.out HB.out) | (with_reducible refine Kd.C_alloc ?_ _) | (with_reducible refine Kd.C_drewN ?_ _) | (with_reducible refine Kd.C_drew ?_)))
               (case side2 => exact HC2.out)
               rintro e w147 ⟨v440, rfl, ho0, hb⟩
               refine ⟨_, rfl, ?_⟩
               have n0_ := am (Kd.R_below (by (with_reducible repeat (first | apply Kd.R_alloc | apply Kd.R_drewN | apply Kd.R_drew)); exact HO_399001.out) hb)
               have n1_ := am (Kd.R_below (by (with_reducible repeat (first | apply Kd.R_alloc | apply Kd.R_drewN | apply Kd.R_drew)); exact HO_418001.out) hb)
               have n2_ := am (Kd.R_below (by (with_reducible repeat (first | apply Kd.R_alloc | apply Kd.R_drewN | apply Kd.R_drew)); exact HO427.out) hb)
               have n3_ := am (Kd.R_below (by (with_reducible repeat (first | apply Kd.R_alloc | apply Kd.R_drewN | apply Kd.R_drew)); exact HO431.out) hb)
               have n4_ := am (Kd.R_below (by (with_reducible repeat (first | apply Kd.R_alloc | apply Kd.R_drewN | apply Kd.R_drew)); exact HO435.out) hb)
               have n5_ := am (Kd.R_lower ho0 (below_size pw))
               have n6_ := bb BK370 hb
               have n7_ := bb BK371 hb
               have n8_ := bb BK398 hb
               have n9_ := bb BK417 hb
               have n10_ := bb BK437 hb
               have n11_ := am (below_step pw hb)
               clear HO_399001 HO_418001 HO427 HO431 HO435 BK370 BK371 BK398 BK417 BK437 HB
               revert n0_ n1_ n2_ n3_ n4_ n5_ n6_ n7_ n8_ n9_ n10_ n11_
               intro HO_399001 HO_418001 HO427 HO431 HO435 HO441 BK370 BK371 BK398 BK417 BK437 HB
               (try clear hb)
               (try clear hb2)
               (try clear hk)
               (try clear hi)
               (try clear ho0)
               obtain ⟨Ao148, co148, eo148⟩ := Kd.R_slice HO441.out
               (first | subst eo148 | (injection eo148 with f1_ f2_ f3_; have f4_ := f1_.symm; have f5_ := f3_.symm; clear f1_ f2_ f3_; subst f4_; subst f5_))
               refine hK.out _ _ ⟨bc BK437 0, bc BK437 1⟩ (fun hHeld => ?_)
               clear hK K
               refine norm_ (a' := ?_) ?_ ?_
               rotate_left
               ·show Act.put _ (some 191) _ = _
                simp only [Act.put, List.setIfInBounds_toArray, List.set_cons_zero, List.set_cons_succ, i64_w, i32_w]
                rfl
               refine one_ (i := 3) (N := some 192) #[true, true, true, true, false, false, false, false, false] rfl rfl (one_of HT_.out kk) (by decide) (fun K hK => ?_)
               refine goes_ Tryd.func53 kk rfl #[.agg #[.int .i64 t432, .slice Ao143 t433.length co143], .slice Ao148 t439.length co148] (by rfl) rfl rfl (by (try simp only [List.map_toArray, List.map_cons, List.map_nil]); first | done | rfl | (simp only [List.length_drop, List.length_take]; rfl)) ?_
               with_reducible refine (zone_Has.calls t432 _ _ t433 _ _ t439 t442 none _ ?side1 ?side2 ?side3 ?side4 A133.out (am (ErrAt.below hE2.out pw)).out (am (ErrAt.below hE3.out pw)).out).mono ?_
               (case side1 => repeat (first | exact (Kd.R_reads' HO435.out).2.2 | (with_reducible refine Kd.C_alloc ?_ _) | (with_reducible refine Kd.C_drewN ?_ _) | (with_reducible refine Kd.C_drew ?_)))
               (case side2 => exact (Kd.R_reads' HO435.out).2.1)
               (case side3 => repeat (first | exact (Kd.R_reads' HO441.out).2.2 | (with_reducible refine Kd.C_alloc ?_ _) | (with_reducible refine Kd.C_drewN ?_ _) | (with_reducible refine Kd.C_drew ?_)))
               (case side4 => exact (Kd.R_reads' HO441.out).2.1)
               rintro e w149 ⟨rfl, hb⟩
               refine ⟨_, rfl, ?_⟩
               have n0_ := am (Kd.R_below (by (with_reducible repeat (first | apply Kd.R_alloc | apply Kd.R_drewN | apply Kd.R_drew)); exact HO_399001.out) hb)
               have n1_ := am (Kd.R_below (by (with_reducible repeat (first | apply Kd.R_alloc | apply Kd.R_drewN | apply Kd.R_drew)); exact HO_418001.out) hb)
               have n2_ := am (Kd.R_below (by (with_reducible repeat (first | apply Kd.R_alloc | apply Kd.R_drewN | apply Kd.R_drew)); exact HO427.out) hb)
               have n3_ := am (Kd.R_below (by (with_reducible repeat (first | apply Kd.R_alloc | apply Kd.R_drewN | apply Kd.R_drew)); exact HO431.out) hb)
               have n4_ := am (Kd.R_below (by (with_reducible repeat (first | apply Kd.R_alloc | apply Kd.R_drewN | apply Kd.R_drew)); exact HO435.out) hb)
               have n5_ := am (Kd.R_below (by (with_reducible repeat (first | apply Kd.R_alloc | apply Kd.R_drewN | apply Kd.R_drew)); exact HO441.out) hb)
               have n6_ := bb BK370 hb
               have n7_ := bb BK371 hb
               have n8_ := bb BK398 hb
               have n9_ := bb BK417 hb
               have n10_ := bb BK437 hb
               have n11_ := am (below_step pw hb)
               clear HO_399001 HO_418001 HO427 HO431 HO435 HO441 BK370 BK371 BK398 BK417 BK437 HB
               revert n0_ n1_ n2_ n3_ n4_ n5_ n6_ n7_ n8_ n9_ n10_ n11_
               intro HO_399001 HO_418001 HO427 HO431 HO435 HO441 BK370 BK371 BK398 BK417 BK437 HB
               (try clear hb)
               (try clear hb2)
               (try clear hk)
               (try clear hi)
               (try simp only [errW_none, errW_some])
               refine hK.out _ _ ⟨bc BK437 0, bc BK437 1⟩ (fun hHeld => ?_)
               clear hK K
               refine norm_ (a' := ?_) ?_ ?_
               rotate_left
               ·show Act.put _ (some 192) _ = _
                simp only [Act.put, List.setIfInBounds_toArray, List.set_cons_zero, List.set_cons_succ, i64_w, i32_w]
                rfl
               refine pure_ (i := 4) (N := some 188) (v := ?_) (a' := ?_) #[true, true, true, true, true, false, false, false, false] rfl rfl (any_of HT_.out kk) (fun _ _ _ h => h) (Or.inl ⟨by rfl, ?_⟩) ?_ ?_
               rotate_left
               ·intro w'
                go_simp
                with_reducible rfl
               rotate_left
               ·simp only [Act.put, List.setIfInBounds_toArray, List.set_cons_zero, List.set_cons_succ, i64_w, i32_w]
                rfl
               refine pure_ (i := 5) (N := some 193) (v := ?_) (a' := ?_) #[true, true, true, true, true, true, false, false, false] rfl rfl (any_of HT_.out kk) (fun _ _ _ h => h) (Or.inl ⟨by rfl, ?_⟩) ?_ ?_
               rotate_left
               ·intro w'
                go_simp
                with_reducible rfl
               rotate_left
               ·simp only [Act.put, List.setIfInBounds_toArray, List.set_cons_zero, List.set_cons_succ, i64_w, i32_w]
                rfl
               refine pure_ (i := 6) (N := some 194) (v := ?_) (a' := ?_) #[true, true, true, true, true, true, true, false, false] rfl rfl (any_of HT_.out kk) (fun _ _ _ h => h) (Or.inl ⟨by rfl, ?_⟩) ?_ ?_
               rotate_left
               ·intro w'
                go_simp
                with_reducible rfl
               rotate_left
               ·simp only [Act.put, List.setIfInBounds_toArray, List.set_cons_zero, List.set_cons_succ, i64_w, i32_w]
                rfl
               refine pure_ (i := 7) (N := some 14) (v := ?_) (a' := ?_) #[true, true, true, true, true, true, true, true, false] rfl rfl (any_of HT_.out kk) (fun _ _ _ h => h) (Or.inl ⟨by rfl, ?_⟩) ?_ ?_
               rotate_left
               ·intro w'
                go_simp
                with_reducible rfl
               rotate_left
               ·simp only [Act.put, List.setIfInBounds_toArray, List.set_cons_zero, List.set_cons_succ, i64_w, i32_w]
                rfl
               refine pure_ (i := 8) (N := some 15) (v := ?_) (a' := ?_) #[true, true, true, true, true, true, true, true, true] rfl rfl (any_of HT_.out kk) (fun _ _ _ h => h) (Or.inl ⟨by rfl, ?_⟩) ?_ ?_
               rotate_left
               ·intro w'
                go_simp
                with_reducible rfl
               rotate_left
               ·simp only [Act.put, List.setIfInBounds_toArray, List.set_cons_zero, List.set_cons_succ, i64_w, i32_w]
                rfl
               refine done_ (done_of HT_.out kk) ?_
               (try simp only [errW_none, errW_some])
               try go_wp2
               go_ret
               exact ⟨by first | rfl | (simp [errW_none, errW_some] <;> rfl) | (simp only [← hji80]; first | rfl | (simp [errW_none, errW_some] <;> rfl)) | (simp [*, errW_none, errW_some] <;> rfl), pw⟩
             have H1 : (none) = some r := by rw [if_neg (show ¬ (some q444).isNone = true by simp)] at H; exact H
             clear H
             have H := H1
             clear H1
             try simp only [errW_none, errW_some]
             exact absurd H (by simp)
            have H1 : (some true) = some r := by rw [if_neg (show ¬ (some q438).isNone = true by simp)] at H; exact H
            clear H
            have H := H1
            clear H1
            try simp only [errW_none, errW_some]
            as_aux_lemma =>
             obtain rfl := Option.some.inj H
             try go_wp2
             have n0_ := am (Kd.R_drew HO_399001.out)
             have n1_ := am (Kd.R_drew HO_418001.out)
             have n2_ := am (blk_drew BK370.out)
             have n3_ := am (blk_drew BK371.out)
             have n4_ := am (blk_drew BK398.out)
             have n5_ := am (blk_drew BK417.out)
             have n6_ := am (below_drew1 HB.out)
             clear HO_399001 HO_418001 BK370 BK371 BK398 BK417 HB
             revert n0_ n1_ n2_ n3_ n4_ n5_ n6_
             intro HO_399001 HO_418001 BK370 BK371 BK398 BK417 HB
             refine start_ (n := 11) (S := fun w' => w'.cell? ⟨gb370, 0, none⟩ = some (.int .i64 a0_0) ∧ w'.cell? ⟨gb370, 1, none⟩ = some (.slice A0_1 l0_1.length c0_1) ∧ w'.cell? ⟨gb371, 0, none⟩ = some (.int .i64 a1_0) ∧ w'.cell? ⟨gb371, 1, none⟩ = some (.slice A1_1 l1_1.length c1_1)) (ds := []) #[false, false, false, false, false, false, false, false, false, false, false] kk rfl rfl ⟨bc BK370 0, bc BK370 1, bc BK371 0, bc BK371 1⟩ (fun hHeld => ?_); refine with_tabW L2_ZoneSound.tab28 L2_ZoneSound.bits28 (fun HT_ HW_ => ?_)
             generalize wc.drew = w150 at HO_399001 HO_418001 BK370 BK371 BK398 BK417 HB hHeld ⊢
             refine take_ (i := 0) (N := some 179) (v := ?_) (a' := ?_) #[true, false, false, false, false, false, false, false, false, false, false] rfl rfl (take_ofW HT_.out HW_.out kk) (fun _ _ _ h => h) (Or.inl ⟨by rfl, ?_⟩) hHeld ?_ ?_
             rotate_left
             ·rintro w' ⟨s0, s1, s2, s3⟩
              go_simp
              with_reducible rfl
             rotate_left
             ·simp only [Act.put, List.setIfInBounds_toArray, List.set_cons_zero, List.set_cons_succ, i64_w, i32_w]
              rfl
             refine take_ (i := 2) (N := some 181) (v := ?_) (a' := ?_) #[true, false, true, false, false, false, false, false, false, false, false] rfl rfl (take_ofW HT_.out HW_.out kk) (fun _ _ _ h => h) (Or.inl ⟨by rfl, ?_⟩) hHeld ?_ ?_
             rotate_left
             ·rintro w' ⟨s0, s1, s2, s3⟩
              go_simp
              with_reducible rfl
             rotate_left
             ·simp only [Act.put, List.setIfInBounds_toArray, List.set_cons_zero, List.set_cons_succ, i64_w, i32_w]
              rfl
             refine join_ (σ := Value × Value × Value × Nat) 2 #[true, true, true, true, true, true, true, true, true, false, false] (fun s_ => [(180, .agg #[.int .i64 t424, s_.1]), (182, .agg #[.int .i64 t428, s_.2.1]), (183, .tuple #[.agg #[.int .i64 t432, s_.2.2.1], errW (some q438)]), (21, .pointer (some ⟨s_.2.2.2, 0, none⟩)), (178, .tuple #[.agg #[.int .i64 t432, s_.2.2.1], errW (some q438)]), (184, .agg #[.int .i64 t432, s_.2.2.1]), (185, errW (some q438))]) (fun s_ w' => (w'.cell? ⟨gb370, 0, none⟩ = some (.int .i64 a0_0) ∧ w'.cell? ⟨gb370, 1, none⟩ = some (.slice A0_1 l0_1.length c0_1) ∧ w'.cell? ⟨gb371, 0, none⟩ = some (.int .i64 a1_0) ∧ w'.cell? ⟨gb371, 1, none⟩ = some (.slice A1_1 l1_1.length c1_1)) ∧ (Kd.R k42 42 w' w.heap.size (fun k_ => some k_ ≠ (s_.2.1 : Value).ownBlock ∧ some k_ ≠ (s_.2.2.1 : Value).ownBlock ∧ some k_ ≠ (.slice Ao77 t393.length co77 : Value).ownBlock ∧ some k_ ≠ (.slice Ao108 t412.length co108 : Value).ownBlock) s_.1 t425) ∧ (Kd.R k42 42 w' w.heap.size (fun k_ => some k_ ≠ (s_.1 : Value).ownBlock ∧ some k_ ≠ (s_.2.2.1 : Value).ownBlock ∧ some k_ ≠ (.slice Ao77 t393.length co77 : Value).ownBlock ∧ some k_ ≠ (.slice Ao108 t412.length co108 : Value).ownBlock) s_.2.1 t429) ∧ (Kd.R k42 42 w' w.heap.size (fun k_ => some k_ ≠ (s_.1 : Value).ownBlock ∧ some k_ ≠ (s_.2.1 : Value).ownBlock ∧ some k_ ≠ (.slice Ao77 t393.length co77 : Value).ownBlock ∧ some k_ ≠ (.slice Ao108 t412.length co108 : Value).ownBlock) s_.2.2.1 t433) ∧ (Kd.R k42 42 w' w.heap.size (fun k_ => some k_ ≠ (s_.1 : Value).ownBlock ∧ some k_ ≠ (s_.2.1 : Value).ownBlock ∧ some k_ ≠ (s_.2.2.1 : Value).ownBlock ∧ some k_ ≠ (.slice Ao108 t412.length co108 : Value).ownBlock) (.slice Ao77 t393.length co77) t393) ∧ (Kd.R k42 42 w' w.heap.size (fun k_ => some k_ ≠ (s_.1 : Value).ownBlock ∧ some k_ ≠ (s_.2.1 : Value).ownBlock ∧ some k_ ≠ (s_.2.2.1 : Value).ownBlock ∧ some k_ ≠ (.slice Ao77 t393.length co77 : Value).ownBlock) (.slice Ao108 t412.length co108) t412) ∧ (w'.heap[gb370]? = some (.cells #[.int .i64 a0_0, .slice A0_1 l0_1.length c0_1] 33 (0, 0))) ∧ (w'.heap[gb371]? = some (.cells #[.int .i64 a1_0, .slice A1_1 l1_1.length c1_1] 33 (0, 0))) ∧ (w'.heap[gb398]? = some (.cells #[.int .i64 t392, .slice Ao77 t393.length co77] 37 (0, 0))) ∧ (w'.heap[gb417]? = some (.cells #[.int .i64 t411, .slice Ao108 t412.length co108] 37 (0, 0))) ∧ (w'.heap[s_.2.2.2]? = some (.cells #[.int .i64 0, .slice none 0 0] 37 (0, 0))) ∧ (w.heap.size ≤ s_.2.2.2) ∧ (w.heap.size ≤ s_.2.2.2) ∧ (gb370 ≠ s_.2.2.2) ∧ (s_.2.2.2 ≠ gb370) ∧ (gb371 ≠ s_.2.2.2) ∧ (s_.2.2.2 ≠ gb371) ∧ (gb398 ≠ s_.2.2.2) ∧ (s_.2.2.2 ≠ gb398) ∧ (gb417 ≠ s_.2.2.2) ∧ (s_.2.2.2 ≠ gb417) ∧ (Below w.heap.size w w')) ?_ ?_
             rotate_left
             ·intro hCont
              refine two_ (i := 1) (j := 8) (Ni := some 180) (Nj := some 21) #[true, true, true, false, false, false, false, false, false, false, false] #[true, false, true, false, false, false, false, false, true, false, false] rfl rfl rfl rfl (two_of HT_.out kk) (by decide) (by decide) (fun K hK => ?_) (fun K hK => ?_)
              ·skip
               refine goes_ Tryd.func23 kk rfl #[.agg #[.int .i64 a0_0, .slice A0_1 l0_1.length c0_1]] (by rfl) rfl rfl (by (try simp only [List.map_toArray, List.map_cons, List.map_nil]); first | done | rfl | (simp only [List.length_drop, List.length_take]; rfl)) ?_
               with_reducible refine (L2_zoneOf.calls kj121 a0_0 _ _ l0_1 t424 t425 _ ?side1 ?side2 A129.out).mono ?_
               (case side1 => repeat (first | exact (Kd.C_below HR0_1.out HB.out) | (with_reducible refine Kd.C_alloc ?_ _) | (with_reducible refine Kd.C_drewN ?_ _) | (with_reducible refine Kd.C_drew ?_)))
               (case side2 => exact HC0_1.out)
               rintro e w151 ⟨v426, rfl, ho0, hb⟩
               refine ⟨_, rfl, ?_⟩
               have n0_ := am (Kd.R_elder' (by (with_reducible repeat (first | apply Kd.R_alloc | apply Kd.R_drewN | apply Kd.R_drew)); exact HO_399001.out) (Kd.R_base ho0) hb)
               have n1_ := am (Kd.R_elder' (by (with_reducible repeat (first | apply Kd.R_alloc | apply Kd.R_drewN | apply Kd.R_drew)); exact HO_418001.out) (Kd.R_base ho0) hb)
               have n2_ := am (Kd.R_lower (Kd.R_new' (Kd.R_new' ho0 (Kd.R_lt (by (with_reducible repeat (first | apply Kd.R_alloc | apply Kd.R_drewN | apply Kd.R_drew)); exact HO_399001.out))) (Kd.R_lt (by (with_reducible repeat (first | apply Kd.R_alloc | apply Kd.R_drewN | apply Kd.R_drew)); exact HO_418001.out))) (below_size pw))
               have n3_ := bb BK370 hb
               have n4_ := bb BK371 hb
               have n5_ := bb BK398 hb
               have n6_ := bb BK417 hb
               have n7_ := am (below_step pw hb)
               clear HO_399001 HO_418001 BK370 BK371 BK398 BK417 HB
               revert n0_ n1_ n2_ n3_ n4_ n5_ n6_ n7_
               intro HO_399001 HO_418001 HO427 BK370 BK371 BK398 BK417 HB
               (try clear hb)
               (try clear hb2)
               (try clear hk)
               (try clear hi)
               (try clear ho0)
               refine hK.out _ _ ⟨bc BK370 0, bc BK370 1, bc BK371 0, bc BK371 1⟩ (fun hHeld => ?_)
               clear hK K
               refine norm_ (a' := ?_) ?_ ?_
               rotate_left
               ·show Act.put _ (some 180) _ = _
                simp only [Act.put, List.setIfInBounds_toArray, List.set_cons_zero, List.set_cons_succ, i64_w, i32_w]
                rfl
               refine two_ (i := 3) (j := 8) (Ni := some 182) (Nj := some 21) #[true, true, true, true, false, false, false, false, false, false, false] #[true, true, true, false, false, false, false, false, true, false, false] rfl rfl rfl rfl (two_of HT_.out kk) (by decide) (by decide) (fun K hK => ?_) (fun K hK => ?_)
               ·skip
                refine goes_ Tryd.func23 kk rfl #[.agg #[.int .i64 a1_0, .slice A1_1 l1_1.length c1_1]] (by rfl) rfl rfl (by (try simp only [List.map_toArray, List.map_cons, List.map_nil]); first | done | rfl | (simp only [List.length_drop, List.length_take]; rfl)) ?_
                with_reducible refine (L2_zoneOf.calls kj121 a1_0 _ _ l1_1 t428 t429 _ ?side1 ?side2 A130.out).mono ?_
                (case side1 => repeat (first | exact (Kd.C_below HR1_1.out HB.out) | (with_reducible refine Kd.C_alloc ?_ _) | (with_reducible refine Kd.C_drewN ?_ _) | (with_reducible refine Kd.C_drew ?_)))
                (case side2 => exact HC1_1.out)
                rintro e w152 ⟨v430, rfl, ho0, hb⟩
                refine ⟨_, rfl, ?_⟩
                have n0_ := am (Kd.R_elder' (by (with_reducible repeat (first | apply Kd.R_alloc | apply Kd.R_drewN | apply Kd.R_drew)); exact HO_399001.out) (Kd.R_base ho0) hb)
                have n1_ := am (Kd.R_elder' (by (with_reducible repeat (first | apply Kd.R_alloc | apply Kd.R_drewN | apply Kd.R_drew)); exact HO_418001.out) (Kd.R_base ho0) hb)
                have n2_ := am (Kd.R_elder' (by (with_reducible repeat (first | apply Kd.R_alloc | apply Kd.R_drewN | apply Kd.R_drew)); exact HO427.out) (Kd.R_base ho0) hb)
                have n3_ := am (Kd.R_lower (Kd.R_new' (Kd.R_new' (Kd.R_new' ho0 (Kd.R_lt (by (with_reducible repeat (first | apply Kd.R_alloc | apply Kd.R_drewN | apply Kd.R_drew)); exact HO_399001.out))) (Kd.R_lt (by (with_reducible repeat (first | apply Kd.R_alloc | apply Kd.R_drewN | apply Kd.R_drew)); exact HO_418001.out))) (Kd.R_lt (by (with_reducible repeat (first | apply Kd.R_alloc | apply Kd.R_drewN | apply Kd.R_drew)); exact HO427.out))) (below_size pw))
                have n4_ := bb BK370 hb
                have n5_ := bb BK371 hb
                have n6_ := bb BK398 hb
                have n7_ := bb BK417 hb
                have n8_ := am (below_step pw hb)
                clear HO_399001 HO_418001 HO427 BK370 BK371 BK398 BK417 HB
                revert n0_ n1_ n2_ n3_ n4_ n5_ n6_ n7_ n8_
                intro HO_399001 HO_418001 HO427 HO431 BK370 BK371 BK398 BK417 HB
                (try clear hb)
                (try clear hb2)
                (try clear hk)
                (try clear hi)
                (try clear ho0)
                obtain ⟨Ao153, co153, eo153⟩ := Kd.R_slice HO427.out
                (first | subst eo153 | (injection eo153 with f1_ f2_ f3_; have f4_ := f1_.symm; have f5_ := f3_.symm; clear f1_ f2_ f3_; subst f4_; subst f5_))
                obtain ⟨Ao154, co154, eo154⟩ := Kd.R_slice HO431.out
                (first | subst eo154 | (injection eo154 with f1_ f2_ f3_; have f4_ := f1_.symm; have f5_ := f3_.symm; clear f1_ f2_ f3_; subst f4_; subst f5_))
                refine hK.out _ _ ⟨bc BK370 0, bc BK370 1, bc BK371 0, bc BK371 1⟩ (fun hHeld => ?_)
                clear hK K
                refine norm_ (a' := ?_) ?_ ?_
                rotate_left
                ·show Act.put _ (some 182) _ = _
                 simp only [Act.put, List.setIfInBounds_toArray, List.set_cons_zero, List.set_cons_succ, i64_w, i32_w]
                 rfl
                refine two_ (i := 4) (j := 8) (Ni := some 183) (Nj := some 21) #[true, true, true, true, true, false, false, false, false, false, false] #[true, true, true, true, false, false, false, false, true, false, false] rfl rfl rfl rfl (two_of HT_.out kk) (by decide) (by decide) (fun K hK => ?_) (fun K hK => ?_)
                ·skip
                 refine goes_ Tryd.func46 kk rfl #[.agg #[.int .i64 t424, .slice Ao153 t425.length co153], .agg #[.int .i64 t428, .slice Ao154 t429.length co154]] (by rfl) rfl rfl (by (try simp only [List.map_toArray, List.map_cons, List.map_nil]); first | done | rfl | (simp only [List.length_drop, List.length_take]; rfl)) ?_
                 with_reducible refine (zone_Join.calls t424 _ _ t425 t428 _ _ t429 t432 t433 (some q438) _ ?side1 ?side2 ?side3 ?side4 A131.out (am (ErrAt.below hE2.out pw)).out (am (ErrAt.below hE3.out pw)).out (am (ErrAt.below hE4.out pw)).out).mono ?_
                 (case side1 => repeat (first | exact (Kd.R_reads' HO427.out).2.2 | (with_reducible refine Kd.C_alloc ?_ _) | (with_reducible refine Kd.C_drewN ?_ _) | (with_reducible refine Kd.C_drew ?_)))
                 (case side2 => exact (Kd.R_reads' HO427.out).2.1)
                 (case side3 => repeat (first | exact (Kd.R_reads' HO431.out).2.2 | (with_reducible refine Kd.C_alloc ?_ _) | (with_reducible refine Kd.C_drewN ?_ _) | (with_reducible refine Kd.C_drew ?_)))
                 (case side4 => exact (Kd.R_reads' HO431.out).2.1)
                 rintro e w155 ⟨v434, rfl, ho0, hb⟩
                 refine ⟨_, rfl, ?_⟩
                 have n0_ := am (Kd.R_elder' (by (with_reducible repeat (first | apply Kd.R_alloc | apply Kd.R_drewN | apply Kd.R_drew)); exact HO_399001.out) (Kd.R_base ho0) hb)
                 have n1_ := am (Kd.R_elder' (by (with_reducible repeat (first | apply Kd.R_alloc | apply Kd.R_drewN | apply Kd.R_drew)); exact HO_418001.out) (Kd.R_base ho0) hb)
                 have n2_ := am (Kd.R_elder' (by (with_reducible repeat (first | apply Kd.R_alloc | apply Kd.R_drewN | apply Kd.R_drew)); exact HO427.out) (Kd.R_base ho0) hb)
                 have n3_ := am (Kd.R_elder' (by (with_reducible repeat (first | apply Kd.R_alloc | apply Kd.R_drewN | apply Kd.R_drew)); exact HO431.out) (Kd.R_base ho0) hb)
                 have n4_ := am (Kd.R_lower (Kd.R_new' (Kd.R_new' (Kd.R_new' (Kd.R_new' ho0 (Kd.R_lt (by (with_reducible repeat (first | apply Kd.R_alloc | apply Kd.R_drewN | apply Kd.R_drew)); exact HO_399001.out))) (Kd.R_lt (by (with_reducible repeat (first | apply Kd.R_alloc | apply Kd.R_drewN | apply Kd.R_drew)); exact HO_418001.out))) (Kd.R_lt (by (with_reducible repeat (first | apply Kd.R_alloc | apply Kd.R_drewN | apply Kd.R_drew)); exact HO427.out))) (Kd.R_lt (by (with_reducible repeat (first | apply Kd.R_alloc | apply Kd.R_drewN | apply Kd.R_drew)); exact HO431.out))) (below_size pw))
                 have n5_ := bb BK370 hb
                 have n6_ := bb BK371 hb
                 have n7_ := bb BK398 hb
                 have n8_ := bb BK417 hb
                 have n9_ := am (below_step pw hb)
                 clear HO_399001 HO_418001 HO427 HO431 BK370 BK371 BK398 BK417 HB
                 revert n0_ n1_ n2_ n3_ n4_ n5_ n6_ n7_ n8_ n9_
                 intro HO_399001 HO_418001 HO427 HO431 HO435 BK370 BK371 BK398 BK417 HB
                 (try clear hb)
                 (try clear hb2)
                 (try clear hk)
                 (try clear hi)
                 (try clear ho0)
                 (try simp only [errW_none, errW_some])
                 refine hK.out _ _ ⟨bc BK370 0, bc BK370 1, bc BK371 0, bc BK371 1⟩ (fun hHeld => ?_)
                 clear hK K
                 refine norm_ (a' := ?_) ?_ ?_
                 rotate_left
                 ·show Act.put _ (some 183) _ = _
                  simp only [Act.put, List.setIfInBounds_toArray, List.set_cons_zero, List.set_cons_succ, i64_w, i32_w]
                  rfl
                 refine pure_ (i := 5) (N := some 178) (v := ?_) (a' := ?_) #[true, true, true, true, true, true, false, false, false, false, false] rfl rfl (any_of HT_.out kk) (fun _ _ _ h => h) (Or.inl ⟨by rfl, ?_⟩) ?_ ?_
                 rotate_left
                 ·intro w'
                  go_simp
                  with_reducible rfl
                 rotate_left
                 ·simp only [Act.put, List.setIfInBounds_toArray, List.set_cons_zero, List.set_cons_succ, i64_w, i32_w]
                  rfl
                 refine pure_ (i := 6) (N := some 184) (v := ?_) (a' := ?_) #[true, true, true, true, true, true, true, false, false, false, false] rfl rfl (any_of HT_.out kk) (fun _ _ _ h => h) (Or.inl ⟨by rfl, ?_⟩) ?_ ?_
                 rotate_left
                 ·intro w'
                  go_simp
                  with_reducible rfl
                 rotate_left
                 ·simp only [Act.put, List.setIfInBounds_toArray, List.set_cons_zero, List.set_cons_succ, i64_w, i32_w]
                  rfl
                 refine pure_ (i := 7) (N := some 185) (v := ?_) (a' := ?_) #[true, true, true, true, true, true, true, true, false, false, false] rfl rfl (any_of HT_.out kk) (fun _ _ _ h => h) (Or.inl ⟨by rfl, ?_⟩) ?_ ?_
                 rotate_left
                 ·intro w'
                  go_simp
                  with_reducible rfl
                 rotate_left
                 ·simp only [Act.put, List.setIfInBounds_toArray, List.set_cons_zero, List.set_cons_succ, i64_w, i32_w]
                  rfl
                 refine one_ (i := 8) (N := some 21) #[true, true, true, true, true, true, true, true, true, false, false] rfl rfl (one_of HT_.out kk) (by decide) (fun K hK => ?_)
                 refine box_step ?hg (N := 21) ?hd (cs := #[.int .i64 0, .slice none 0 0]) (t := 37) ?hr ?_; (case hd => rfl); (case hg => rfl); (case hr => first | (go_simp; done) | (go_simp; rfl))
                 intro gb437 hg w156 hbox hb
                 have n0_ := am (Kd.R_below (by (with_reducible repeat (first | apply Kd.R_alloc | apply Kd.R_drewN | apply Kd.R_drew)); exact HO_399001.out) hb)
                 have n1_ := am (Kd.R_below (by (with_reducible repeat (first | apply Kd.R_alloc | apply Kd.R_drewN | apply Kd.R_drew)); exact HO_418001.out) hb)
                 have n2_ := am (Kd.R_below (by (with_reducible repeat (first | apply Kd.R_alloc | apply Kd.R_drewN | apply Kd.R_drew)); exact HO427.out) hb)
                 have n3_ := am (Kd.R_below (by (with_reducible repeat (first | apply Kd.R_alloc | apply Kd.R_drewN | apply Kd.R_drew)); exact HO431.out) hb)
                 have n4_ := am (Kd.R_below (by (with_reducible repeat (first | apply Kd.R_alloc | apply Kd.R_drewN | apply Kd.R_drew)); exact HO435.out) hb)
                 have n5_ := bb BK370 hb
                 have n6_ := bb BK371 hb
                 have n7_ := bb BK398 hb
                 have n8_ := bb BK417 hb
                 have n9_ := am (below_step pw hb)
                 have n10_ := am (hbox)
                 have n11_ := am ((by rw [hg]; exact (below_size pw) : w.heap.size ≤ gb437))
                 have n12_ := am ((by rw [hg]; exact (below_size pw) : w.heap.size ≤ gb437))
                 have n13_ := am ((by rw [hg]; exact Nat.ne_of_lt (blk_lt pk) : gb370 ≠ gb437))
                 have n14_ := am ((by rw [hg]; exact Nat.ne_of_gt (blk_lt pk) : gb437 ≠ gb370))
                 have n15_ := am ((by rw [hg]; exact Nat.ne_of_lt (blk_lt pk) : gb371 ≠ gb437))
                 have n16_ := am ((by rw [hg]; exact Nat.ne_of_gt (blk_lt pk) : gb437 ≠ gb371))
                 have n17_ := am ((by rw [hg]; exact Nat.ne_of_lt (blk_lt pk) : gb398 ≠ gb437))
                 have n18_ := am ((by rw [hg]; exact Nat.ne_of_gt (blk_lt pk) : gb437 ≠ gb398))
                 have n19_ := am ((by rw [hg]; exact Nat.ne_of_lt (blk_lt pk) : gb417 ≠ gb437))
                 have n20_ := am ((by rw [hg]; exact Nat.ne_of_gt (blk_lt pk) : gb437 ≠ gb417))
                 clear HO_399001 HO_418001 HO427 HO431 HO435 BK370 BK371 BK398 BK417 HB
                 revert n0_ n1_ n2_ n3_ n4_ n5_ n6_ n7_ n8_ n9_ n10_ n11_ n12_ n13_ n14_ n15_ n16_ n17_ n18_ n19_ n20_
                 intro HO_399001 HO_418001 HO427 HO431 HO435 BK370 BK371 BK398 BK417 HB BK437 GW437 GE437 NB370_437 NB437_370 NB371_437 NB437_371 NB398_437 NB437_398 NB417_437 NB437_417
                 clear hb hbox hg
                 refine hK.out _ _ ⟨bc BK370 0, bc BK370 1, bc BK371 0, bc BK371 1⟩ (fun hHeld => ?_)
                 clear hK K
                 refine norm_ (a' := ?_) ?_ ?_
                 rotate_left
                 ·show Act.put _ (some 21) _ = _
                  simp only [Act.put, List.setIfInBounds_toArray, List.set_cons_zero, List.set_cons_succ, i64_w, i32_w]
                  rfl
                 exact norm_ (by simp only [putAll, Act.put, List.setIfInBounds_toArray, List.set_cons_zero, List.set_cons_succ, errW_none, errW_some]) (hCont (.slice Ao153 t425.length co153, .slice Ao154 t429.length co154, v434, gb437) _ ⟨hHeld, (by (with_reducible repeat (first | apply Kd.R_alloc | apply Kd.R_drewN | apply Kd.R_drew)); exact Kd.R_mono HO427.out (fun _ hk => ⟨hk.1.2, ⟨hk.2, ⟨hk.1.1.1.2, hk.1.1.2⟩⟩⟩)), (by (with_reducible repeat (first | apply Kd.R_alloc | apply Kd.R_drewN | apply Kd.R_drew)); exact Kd.R_mono HO431.out (fun _ hk => ⟨hk.1.2, ⟨hk.2, ⟨hk.1.1.1.2, hk.1.1.2⟩⟩⟩)), (by (with_reducible repeat (first | apply Kd.R_alloc | apply Kd.R_drewN | apply Kd.R_drew)); exact Kd.R_mono HO435.out (fun _ hk => ⟨hk.1.2, ⟨hk.2, ⟨hk.1.1.1.2, hk.1.1.2⟩⟩⟩)), (by (with_reducible repeat (first | apply Kd.R_alloc | apply Kd.R_drewN | apply Kd.R_drew)); exact Kd.R_mono HO_399001.out (fun _ hk => ⟨hk.1.1.2, ⟨hk.1.2, ⟨hk.2, hk.1.1.1⟩⟩⟩)), (by (with_reducible repeat (first | apply Kd.R_alloc | apply Kd.R_drewN | apply Kd.R_drew)); exact Kd.R_mono HO_418001.out (fun _ hk => ⟨hk.1.1.2, ⟨hk.1.2, ⟨hk.2, hk.1.1.1⟩⟩⟩)), pk, pk, pk, pk, pk, GW437.out, GE437.out, NB370_437.out, NB437_370.out, NB371_437.out, NB437_371.out, NB398_437.out, NB437_398.out, NB417_437.out, NB437_417.out, pw⟩)
                skip
                refine box_step ?hg (N := 21) ?hd (cs := #[.int .i64 0, .slice none 0 0]) (t := 37) ?hr ?_; (case hd => rfl); (case hg => rfl); (case hr => first | (go_simp; done) | (go_simp; rfl))
                intro gb437 hg w153 hbox hb
                have n0_ := am (Kd.R_below (by (with_reducible repeat (first | apply Kd.R_alloc | apply Kd.R_drewN | apply Kd.R_drew)); exact HO_399001.out) hb)
                have n1_ := am (Kd.R_below (by (with_reducible repeat (first | apply Kd.R_alloc | apply Kd.R_drewN | apply Kd.R_drew)); exact HO_418001.out) hb)
                have n2_ := am (Kd.R_below (by (with_reducible repeat (first | apply Kd.R_alloc | apply Kd.R_drewN | apply Kd.R_drew)); exact HO427.out) hb)
                have n3_ := am (Kd.R_below (by (with_reducible repeat (first | apply Kd.R_alloc | apply Kd.R_drewN | apply Kd.R_drew)); exact HO431.out) hb)
                have n4_ := bb BK370 hb
                have n5_ := bb BK371 hb
                have n6_ := bb BK398 hb
                have n7_ := bb BK417 hb
                have n8_ := am (below_step pw hb)
                have n9_ := am (hbox)
                have n10_ := am ((by rw [hg]; exact (below_size pw) : w.heap.size ≤ gb437))
                have n11_ := am ((by rw [hg]; exact (below_size pw) : w.heap.size ≤ gb437))
                have n12_ := am ((by rw [hg]; exact Nat.ne_of_lt (blk_lt pk) : gb370 ≠ gb437))
                have n13_ := am ((by rw [hg]; exact Nat.ne_of_gt (blk_lt pk) : gb437 ≠ gb370))
                have n14_ := am ((by rw [hg]; exact Nat.ne_of_lt (blk_lt pk) : gb371 ≠ gb437))
                have n15_ := am ((by rw [hg]; exact Nat.ne_of_gt (blk_lt pk) : gb437 ≠ gb371))
                have n16_ := am ((by rw [hg]; exact Nat.ne_of_lt (blk_lt pk) : gb398 ≠ gb437))
                have n17_ := am ((by rw [hg]; exact Nat.ne_of_gt (blk_lt pk) : gb437 ≠ gb398))
                have n18_ := am ((by rw [hg]; exact Nat.ne_of_lt (blk_lt pk) : gb417 ≠ gb437))
                have n19_ := am ((by rw [hg]; exact Nat.ne_of_gt (blk_lt pk) : gb437 ≠ gb417))
                clear HO_399001 HO_418001 HO427 HO431 BK370 BK371 BK398 BK417 HB
                revert n0_ n1_ n2_ n3_ n4_ n5_ n6_ n7_ n8_ n9_ n10_ n11_ n12_ n13_ n14_ n15_ n16_ n17_ n18_ n19_
                intro HO_399001 HO_418001 HO427 HO431 BK370 BK371 BK398 BK417 HB BK437 GW437 GE437 NB370_437 NB437_370 NB371_437 NB437_371 NB398_437 NB437_398 NB417_437 NB437_417
                clear hb hbox hg
                obtain ⟨Ao154, co154, eo154⟩ := Kd.R_slice HO427.out
                (first | subst eo154 | (injection eo154 with f1_ f2_ f3_; have f4_ := f1_.symm; have f5_ := f3_.symm; clear f1_ f2_ f3_; subst f4_; subst f5_))
                obtain ⟨Ao155, co155, eo155⟩ := Kd.R_slice HO431.out
                (first | subst eo155 | (injection eo155 with f1_ f2_ f3_; have f4_ := f1_.symm; have f5_ := f3_.symm; clear f1_ f2_ f3_; subst f4_; subst f5_))
                refine hK.out _ _ ⟨bc BK370 0, bc BK370 1, bc BK371 0, bc BK371 1⟩ (fun hHeld => ?_)
                clear hK K
                refine norm_ (a' := ?_) ?_ ?_
                rotate_left
                ·show Act.put _ (some 21) _ = _
                 simp only [Act.put, List.setIfInBounds_toArray, List.set_cons_zero, List.set_cons_succ, i64_w, i32_w]
                 rfl
                refine one_ (i := 4) (N := some 183) #[true, true, true, true, true, false, false, false, true, false, false] rfl rfl (one_of HT_.out kk) (by decide) (fun K hK => ?_)
                refine goes_ Tryd.func46 kk rfl #[.agg #[.int .i64 t424, .slice Ao154 t425.length co154], .agg #[.int .i64 t428, .slice Ao155 t429.length co155]] (by rfl) rfl rfl (by (try simp only [List.map_toArray, List.map_cons, List.map_nil]); first | done | rfl | (simp only [List.length_drop, List.length_take]; rfl)) ?_
                with_reducible refine (zone_Join.calls t424 _ _ t425 t428 _ _ t429 t432 t433 (some q438) _ ?side1 ?side2 ?side3 ?side4 A131.out (am (ErrAt.below hE2.out pw)).out (am (ErrAt.below hE3.out pw)).out (am (ErrAt.below hE4.out pw)).out).mono ?_
                (case side1 => repeat (first | exact (Kd.R_reads' HO427.out).2.2 | (with_reducible refine Kd.C_alloc ?_ _) | (with_reducible refine Kd.C_drewN ?_ _) | (with_reducible refine Kd.C_drew ?_)))
                (case side2 => exact (Kd.R_reads' HO427.out).2.1)
                (case side3 => repeat (first | exact (Kd.R_reads' HO431.out).2.2 | (with_reducible refine Kd.C_alloc ?_ _) | (with_reducible refine Kd.C_drewN ?_ _) | (with_reducible refine Kd.C_drew ?_)))
                (case side4 => exact (Kd.R_reads' HO431.out).2.1)
                rintro e w156 ⟨v434, rfl, ho0, hb⟩
                refine ⟨_, rfl, ?_⟩
                have n0_ := am (Kd.R_elder' (by (with_reducible repeat (first | apply Kd.R_alloc | apply Kd.R_drewN | apply Kd.R_drew)); exact HO_399001.out) (Kd.R_base ho0) hb)
                have n1_ := am (Kd.R_elder' (by (with_reducible repeat (first | apply Kd.R_alloc | apply Kd.R_drewN | apply Kd.R_drew)); exact HO_418001.out) (Kd.R_base ho0) hb)
                have n2_ := am (Kd.R_elder' (by (with_reducible repeat (first | apply Kd.R_alloc | apply Kd.R_drewN | apply Kd.R_drew)); exact HO427.out) (Kd.R_base ho0) hb)
                have n3_ := am (Kd.R_elder' (by (with_reducible repeat (first | apply Kd.R_alloc | apply Kd.R_drewN | apply Kd.R_drew)); exact HO431.out) (Kd.R_base ho0) hb)
                have n4_ := am (Kd.R_lower (Kd.R_new' (Kd.R_new' (Kd.R_new' (Kd.R_new' ho0 (Kd.R_lt (by (with_reducible repeat (first | apply Kd.R_alloc | apply Kd.R_drewN | apply Kd.R_drew)); exact HO_399001.out))) (Kd.R_lt (by (with_reducible repeat (first | apply Kd.R_alloc | apply Kd.R_drewN | apply Kd.R_drew)); exact HO_418001.out))) (Kd.R_lt (by (with_reducible repeat (first | apply Kd.R_alloc | apply Kd.R_drewN | apply Kd.R_drew)); exact HO427.out))) (Kd.R_lt (by (with_reducible repeat (first | apply Kd.R_alloc | apply Kd.R_drewN | apply Kd.R_drew)); exact HO431.out))) (below_size pw))
                have n5_ := bb BK370 hb
                have n6_ := bb BK371 hb
                have n7_ := bb BK398 hb
                have n8_ := bb BK417 hb
                have n9_ := bb BK437 hb
                have n10_ := am (below_step pw hb)
                clear HO_399001 HO_418001 HO427 HO431 BK370 BK371 BK398 BK417 BK437 HB
                revert n0_ n1_ n2_ n3_ n4_ n5_ n6_ n7_ n8_ n9_ n10_
                intro HO_399001 HO_418001 HO427 HO431 HO435 BK370 BK371 BK398 BK417 BK437 HB
                (try clear hb)
                (try clear hb2)
                (try clear hk)
                (try clear hi)
                (try clear ho0)
                (try simp only [errW_none, errW_some])
                refine hK.out _ _ ⟨bc BK370 0, bc BK370 1, bc BK371 0, bc BK371 1⟩ (fun hHeld => ?_)
                clear hK K
                refine norm_ (a' := ?_) ?_ ?_
                rotate_left
                ·show Act.put _ (some 183) _ = _
                 simp only [Act.put, List.setIfInBounds_toArray, List.set_cons_zero, List.set_cons_succ, i64_w, i32_w]
                 rfl
                refine pure_ (i := 5) (N := some 178) (v := ?_) (a' := ?_) #[true, true, true, true, true, true, false, false, true, false, false] rfl rfl (any_of HT_.out kk) (fun _ _ _ h => h) (Or.inl ⟨by rfl, ?_⟩) ?_ ?_
                rotate_left
                ·intro w'
                 go_simp
                 with_reducible rfl
                rotate_left
                ·simp only [Act.put, List.setIfInBounds_toArray, List.set_cons_zero, List.set_cons_succ, i64_w, i32_w]
                 rfl
                refine pure_ (i := 6) (N := some 184) (v := ?_) (a' := ?_) #[true, true, true, true, true, true, true, false, true, false, false] rfl rfl (any_of HT_.out kk) (fun _ _ _ h => h) (Or.inl ⟨by rfl, ?_⟩) ?_ ?_
                rotate_left
                ·intro w'
                 go_simp
                 with_reducible rfl
                rotate_left
                ·simp only [Act.put, List.setIfInBounds_toArray, List.set_cons_zero, List.set_cons_succ, i64_w, i32_w]
                 rfl
                refine pure_ (i := 7) (N := some 185) (v := ?_) (a' := ?_) #[true, true, true, true, true, true, true, true, true, false, false] rfl rfl (any_of HT_.out kk) (fun _ _ _ h => h) (Or.inl ⟨by rfl, ?_⟩) ?_ ?_
                rotate_left
                ·intro w'
                 go_simp
                 with_reducible rfl
                rotate_left
                ·simp only [Act.put, List.setIfInBounds_toArray, List.set_cons_zero, List.set_cons_succ, i64_w, i32_w]
                 rfl
                exact norm_ (by simp only [putAll, Act.put, List.setIfInBounds_toArray, List.set_cons_zero, List.set_cons_succ, errW_none, errW_some]) (hCont (.slice Ao154 t425.length co154, .slice Ao155 t429.length co155, v434, gb437) _ ⟨hHeld, (by (with_reducible repeat (first | apply Kd.R_alloc | apply Kd.R_drewN | apply Kd.R_drew)); exact Kd.R_mono HO427.out (fun _ hk => ⟨hk.1.2, ⟨hk.2, ⟨hk.1.1.1.2, hk.1.1.2⟩⟩⟩)), (by (with_reducible repeat (first | apply Kd.R_alloc | apply Kd.R_drewN | apply Kd.R_drew)); exact Kd.R_mono HO431.out (fun _ hk => ⟨hk.1.2, ⟨hk.2, ⟨hk.1.1.1.2, hk.1.1.2⟩⟩⟩)), (by (with_reducible repeat (first | apply Kd.R_alloc | apply Kd.R_drewN | apply Kd.R_drew)); exact Kd.R_mono HO435.out (fun _ hk => ⟨hk.1.2, ⟨hk.2, ⟨hk.1.1.1.2, hk.1.1.2⟩⟩⟩)), (by (with_reducible repeat (first | apply Kd.R_alloc | apply Kd.R_drewN | apply Kd.R_drew)); exact Kd.R_mono HO_399001.out (fun _ hk => ⟨hk.1.1.2, ⟨hk.1.2, ⟨hk.2, hk.1.1.1⟩⟩⟩)), (by (with_reducible repeat (first | apply Kd.R_alloc | apply Kd.R_drewN | apply Kd.R_drew)); exact Kd.R_mono HO_418001.out (fun _ hk => ⟨hk.1.1.2, ⟨hk.1.2, ⟨hk.2, hk.1.1.1⟩⟩⟩)), pk, pk, pk, pk, pk, GW437.out, GE437.out, NB370_437.out, NB437_370.out, NB371_437.out, NB437_371.out, NB398_437.out, NB437_398.out, NB417_437.out, NB437_417.out, pw⟩)
               skip
               refine box_step ?hg (N := 21) ?hd (cs := #[.int .i64 0, .slice none 0 0]) (t := 37) ?hr ?_; (case hd => rfl); (case hg => rfl); (case hr => first | (go_simp; done) | (go_simp; rfl))
               intro gb437 hg w152 hbox hb
               have n0_ := am (Kd.R_below (by (with_reducible repeat (first | apply Kd.R_alloc | apply Kd.R_drewN | apply Kd.R_drew)); exact HO_399001.out) hb)
               have n1_ := am (Kd.R_below (by (with_reducible repeat (first | apply Kd.R_alloc | apply Kd.R_drewN | apply Kd.R_drew)); exact HO_418001.out) hb)
               have n2_ := am (Kd.R_below (by (with_reducible repeat (first | apply Kd.R_alloc | apply Kd.R_drewN | apply Kd.R_drew)); exact HO427.out) hb)
               have n3_ := bb BK370 hb
               have n4_ := bb BK371 hb
               have n5_ := bb BK398 hb
               have n6_ := bb BK417 hb
               have n7_ := am (below_step pw hb)
               have n8_ := am (hbox)
               have n9_ := am ((by rw [hg]; exact (below_size pw) : w.heap.size ≤ gb437))
               have n10_ := am ((by rw [hg]; exact (below_size pw) : w.heap.size ≤ gb437))
               have n11_ := am ((by rw [hg]; exact Nat.ne_of_lt (blk_lt pk) : gb370 ≠ gb437))
               have n12_ := am ((by rw [hg]; exact Nat.ne_of_gt (blk_lt pk) : gb437 ≠ gb370))
               have n13_ := am ((by rw [hg]; exact Nat.ne_of_lt (blk_lt pk) : gb371 ≠ gb437))
               have n14_ := am ((by rw [hg]; exact Nat.ne_of_gt (blk_lt pk) : gb437 ≠ gb371))
               have n15_ := am ((by rw [hg]; exact Nat.ne_of_lt (blk_lt pk) : gb398 ≠ gb437))
               have n16_ := am ((by rw [hg]; exact Nat.ne_of_gt (blk_lt pk) : gb437 ≠ gb398))
               have n17_ := am ((by rw [hg]; exact Nat.ne_of_lt (blk_lt pk) : gb417 ≠ gb437))
               have n18_ := am ((by rw [hg]; exact Nat.ne_of_gt (blk_lt pk) : gb437 ≠ gb417))
               clear HO_399001 HO_418001 HO427 BK370 BK371 BK398 BK417 HB
               revert n0_ n1_ n2_ n3_ n4_ n5_ n6_ n7_ n8_ n9_ n10_ n11_ n12_ n13_ n14_ n15_ n16_ n17_ n18_
               intro HO_399001 HO_418001 HO427 BK370 BK371 BK398 BK417 HB BK437 GW437 GE437 NB370_437 NB437_370 NB371_437 NB437_371 NB398_437 NB437_398 NB417_437 NB437_417
               clear hb hbox hg
               refine hK.out _ _ ⟨bc BK370 0, bc BK370 1, bc BK371 0, bc BK371 1⟩ (fun hHeld => ?_)
               clear hK K
               refine norm_ (a' := ?_) ?_ ?_
               rotate_left
               ·show Act.put _ (some 21) _ = _
                simp only [Act.put, List.setIfInBounds_toArray, List.set_cons_zero, List.set_cons_succ, i64_w, i32_w]
                rfl
               refine one_ (i := 3) (N := some 182) #[true, true, true, true, false, false, false, false, true, false, false] rfl rfl (one_of HT_.out kk) (by decide) (fun K hK => ?_)
               refine goes_ Tryd.func23 kk rfl #[.agg #[.int .i64 a1_0, .slice A1_1 l1_1.length c1_1]] (by rfl) rfl rfl (by (try simp only [List.map_toArray, List.map_cons, List.map_nil]); first | done | rfl | (simp only [List.length_drop, List.length_take]; rfl)) ?_
               with_reducible refine (L2_zoneOf.calls kj121 a1_0 _ _ l1_1 t428 t429 _ ?side1 ?side2 A130.out).mono ?_
               (case side1 => repeat (first | exact (Kd.C_below HR1_1.out HB.out) | (with_reducible refine Kd.C_alloc ?_ _) | (with_reducible refine Kd.C_drewN ?_ _) | (with_reducible refine Kd.C_drew ?_)))
               (case side2 => exact HC1_1.out)
               rintro e w153 ⟨v430, rfl, ho0, hb⟩
               refine ⟨_, rfl, ?_⟩
               have n0_ := am (Kd.R_elder' (by (with_reducible repeat (first | apply Kd.R_alloc | apply Kd.R_drewN | apply Kd.R_drew)); exact HO_399001.out) (Kd.R_base ho0) hb)
               have n1_ := am (Kd.R_elder' (by (with_reducible repeat (first | apply Kd.R_alloc | apply Kd.R_drewN | apply Kd.R_drew)); exact HO_418001.out) (Kd.R_base ho0) hb)
               have n2_ := am (Kd.R_elder' (by (with_reducible repeat (first | apply Kd.R_alloc | apply Kd.R_drewN | apply Kd.R_drew)); exact HO427.out) (Kd.R_base ho0) hb)
               have n3_ := am (Kd.R_lower (Kd.R_new' (Kd.R_new' (Kd.R_new' ho0 (Kd.R_lt (by (with_reducible repeat (first | apply Kd.R_alloc | apply Kd.R_drewN | apply Kd.R_drew)); exact HO_399001.out))) (Kd.R_lt (by (with_reducible repeat (first | apply Kd.R_alloc | apply Kd.R_drewN | apply Kd.R_drew)); exact HO_418001.out))) (Kd.R_lt (by (with_reducible repeat (first | apply Kd.R_alloc | apply Kd.R_drewN | apply Kd.R_drew)); exact HO427.out))) (below_size pw))
               have n4_ := bb BK370 hb
               have n5_ := bb BK371 hb
               have n6_ := bb BK398 hb
               have n7_ := bb BK417 hb
               have n8_ := bb BK437 hb
               have n9_ := am (below_step pw hb)
               clear HO_399001 HO_418001 HO427 BK370 BK371 BK398 BK417 BK437 HB
               revert n0_ n1_ n2_ n3_ n4_ n5_ n6_ n7_ n8_ n9_
               intro HO_399001 HO_418001 HO427 HO431 BK370 BK371 BK398 BK417 BK437 HB
               (try clear hb)
               (try clear hb2)
               (try clear hk)
               (try clear hi)
               (try clear ho0)
               obtain ⟨Ao154, co154, eo154⟩ := Kd.R_slice HO427.out
               (first | subst eo154 | (injection eo154 with f1_ f2_ f3_; have f4_ := f1_.symm; have f5_ := f3_.symm; clear f1_ f2_ f3_; subst f4_; subst f5_))
               obtain ⟨Ao155, co155, eo155⟩ := Kd.R_slice HO431.out
               (first | subst eo155 | (injection eo155 with f1_ f2_ f3_; have f4_ := f1_.symm; have f5_ := f3_.symm; clear f1_ f2_ f3_; subst f4_; subst f5_))
               refine hK.out _ _ ⟨bc BK370 0, bc BK370 1, bc BK371 0, bc BK371 1⟩ (fun hHeld => ?_)
               clear hK K
               refine norm_ (a' := ?_) ?_ ?_
               rotate_left
               ·show Act.put _ (some 182) _ = _
                simp only [Act.put, List.setIfInBounds_toArray, List.set_cons_zero, List.set_cons_succ, i64_w, i32_w]
                rfl
               refine one_ (i := 4) (N := some 183) #[true, true, true, true, true, false, false, false, true, false, false] rfl rfl (one_of HT_.out kk) (by decide) (fun K hK => ?_)
               refine goes_ Tryd.func46 kk rfl #[.agg #[.int .i64 t424, .slice Ao154 t425.length co154], .agg #[.int .i64 t428, .slice Ao155 t429.length co155]] (by rfl) rfl rfl (by (try simp only [List.map_toArray, List.map_cons, List.map_nil]); first | done | rfl | (simp only [List.length_drop, List.length_take]; rfl)) ?_
               with_reducible refine (zone_Join.calls t424 _ _ t425 t428 _ _ t429 t432 t433 (some q438) _ ?side1 ?side2 ?side3 ?side4 A131.out (am (ErrAt.below hE2.out pw)).out (am (ErrAt.below hE3.out pw)).out (am (ErrAt.below hE4.out pw)).out).mono ?_
               (case side1 => repeat (first | exact (Kd.R_reads' HO427.out).2.2 | (with_reducible refine Kd.C_alloc ?_ _) | (with_reducible refine Kd.C_drewN ?_ _) | (with_reducible refine Kd.C_drew ?_)))
               (case side2 => exact (Kd.R_reads' HO427.out).2.1)
               (case side3 => repeat (first | exact (Kd.R_reads' HO431.out).2.2 | (with_reducible refine Kd.C_alloc ?_ _) | (with_reducible refine Kd.C_drewN ?_ _) | (with_reducible refine Kd.C_drew ?_)))
               (case side4 => exact (Kd.R_reads' HO431.out).2.1)
               rintro e w156 ⟨v434, rfl, ho0, hb⟩
               refine ⟨_, rfl, ?_⟩
               have n0_ := am (Kd.R_elder' (by (with_reducible repeat (first | apply Kd.R_alloc | apply Kd.R_drewN | apply Kd.R_drew)); exact HO_399001.out) (Kd.R_base ho0) hb)
               have n1_ := am (Kd.R_elder' (by (with_reducible repeat (first | apply Kd.R_alloc | apply Kd.R_drewN | apply Kd.R_drew)); exact HO_418001.out) (Kd.R_base ho0) hb)
               have n2_ := am (Kd.R_elder' (by (with_reducible repeat (first | apply Kd.R_alloc | apply Kd.R_drewN | apply Kd.R_drew)); exact HO427.out) (Kd.R_base ho0) hb)
               have n3_ := am (Kd.R_elder' (by (with_reducible repeat (first | apply Kd.R_alloc | apply Kd.R_drewN | apply Kd.R_drew)); exact HO431.out) (Kd.R_base ho0) hb)
               have n4_ := am (Kd.R_lower (Kd.R_new' (Kd.R_new' (Kd.R_new' (Kd.R_new' ho0 (Kd.R_lt (by (with_reducible repeat (first | apply Kd.R_alloc | apply Kd.R_drewN | apply Kd.R_drew)); exact HO_399001.out))) (Kd.R_lt (by (with_reducible repeat (first | apply Kd.R_alloc | apply Kd.R_drewN | apply Kd.R_drew)); exact HO_418001.out))) (Kd.R_lt (by (with_reducible repeat (first | apply Kd.R_alloc | apply Kd.R_drewN | apply Kd.R_drew)); exact HO427.out))) (Kd.R_lt (by (with_reducible repeat (first | apply Kd.R_alloc | apply Kd.R_drewN | apply Kd.R_drew)); exact HO431.out))) (below_size pw))
               have n5_ := bb BK370 hb
               have n6_ := bb BK371 hb
               have n7_ := bb BK398 hb
               have n8_ := bb BK417 hb
               have n9_ := bb BK437 hb
               have n10_ := am (below_step pw hb)
               clear HO_399001 HO_418001 HO427 HO431 BK370 BK371 BK398 BK417 BK437 HB
               revert n0_ n1_ n2_ n3_ n4_ n5_ n6_ n7_ n8_ n9_ n10_
               intro HO_399001 HO_418001 HO427 HO431 HO435 BK370 BK371 BK398 BK417 BK437 HB
               (try clear hb)
               (try clear hb2)
               (try clear hk)
               (try clear hi)
               (try clear ho0)
               (try simp only [errW_none, errW_some])
               refine hK.out _ _ ⟨bc BK370 0, bc BK370 1, bc BK371 0, bc BK371 1⟩ (fun hHeld => ?_)
               clear hK K
               refine norm_ (a' := ?_) ?_ ?_
               rotate_left
               ·show Act.put _ (some 183) _ = _
                simp only [Act.put, List.setIfInBounds_toArray, List.set_cons_zero, List.set_cons_succ, i64_w, i32_w]
                rfl
               refine pure_ (i := 5) (N := some 178) (v := ?_) (a' := ?_) #[true, true, true, true, true, true, false, false, true, false, false] rfl rfl (any_of HT_.out kk) (fun _ _ _ h => h) (Or.inl ⟨by rfl, ?_⟩) ?_ ?_
               rotate_left
               ·intro w'
                go_simp
                with_reducible rfl
               rotate_left
               ·simp only [Act.put, List.setIfInBounds_toArray, List.set_cons_zero, List.set_cons_succ, i64_w, i32_w]
                rfl
               refine pure_ (i := 6) (N := some 184) (v := ?_) (a' := ?_) #[true, true, true, true, true, true, true, false, true, false, false] rfl rfl (any_of HT_.out kk) (fun _ _ _ h => h) (Or.inl ⟨by rfl, ?_⟩) ?_ ?_
               rotate_left
               ·intro w'
                go_simp
                with_reducible rfl
               rotate_left
               ·simp only [Act.put, List.setIfInBounds_toArray, List.set_cons_zero, List.set_cons_succ, i64_w, i32_w]
                rfl
               refine pure_ (i := 7) (N := some 185) (v := ?_) (a' := ?_) #[true, true, true, true, true, true, true, true, true, false, false] rfl rfl (any_of HT_.out kk) (fun _ _ _ h => h) (Or.inl ⟨by rfl, ?_⟩) ?_ ?_
               rotate_left
               ·intro w'
                go_simp
                with_reducible rfl
               rotate_left
               ·simp only [Act.put, List.setIfInBounds_toArray, List.set_cons_zero, List.set_cons_succ, i64_w, i32_w]
                rfl
               exact norm_ (by simp only [putAll, Act.put, List.setIfInBounds_toArray, List.set_cons_zero, List.set_cons_succ, errW_none, errW_some]) (hCont (.slice Ao154 t425.length co154, .slice Ao155 t429.length co155, v434, gb437) _ ⟨hHeld, (by (with_reducible repeat (first | apply Kd.R_alloc | apply Kd.R_drewN | apply Kd.R_drew)); exact Kd.R_mono HO427.out (fun _ hk => ⟨hk.1.2, ⟨hk.2, ⟨hk.1.1.1.2, hk.1.1.2⟩⟩⟩)), (by (with_reducible repeat (first | apply Kd.R_alloc | apply Kd.R_drewN | apply Kd.R_drew)); exact Kd.R_mono HO431.out (fun _ hk => ⟨hk.1.2, ⟨hk.2, ⟨hk.1.1.1.2, hk.1.1.2⟩⟩⟩)), (by (with_reducible repeat (first | apply Kd.R_alloc | apply Kd.R_drewN | apply Kd.R_drew)); exact Kd.R_mono HO435.out (fun _ hk => ⟨hk.1.2, ⟨hk.2, ⟨hk.1.1.1.2, hk.1.1.2⟩⟩⟩)), (by (with_reducible repeat (first | apply Kd.R_alloc | apply Kd.R_drewN | apply Kd.R_drew)); exact Kd.R_mono HO_399001.out (fun _ hk => ⟨hk.1.1.2, ⟨hk.1.2, ⟨hk.2, hk.1.1.1⟩⟩⟩)), (by (with_reducible repeat (first | apply Kd.R_alloc | apply Kd.R_drewN | apply Kd.R_drew)); exact Kd.R_mono HO_418001.out (fun _ hk => ⟨hk.1.1.2, ⟨hk.1.2, ⟨hk.2, hk.1.1.1⟩⟩⟩)), pk, pk, pk, pk, pk, GW437.out, GE437.out, NB370_437.out, NB437_370.out, NB371_437.out, NB437_371.out, NB398_437.out, NB437_398.out, NB417_437.out, NB437_417.out, pw⟩)
              skip
              refine box_step ?hg (N := 21) ?hd (cs := #[.int .i64 0, .slice none 0 0]) (t := 37) ?hr ?_; (case hd => rfl); (case hg => rfl); (case hr => first | (go_simp; done) | (go_simp; rfl))
              intro gb437 hg w151 hbox hb
              have n0_ := am (Kd.R_below (by (with_reducible repeat (first | apply Kd.R_alloc | apply Kd.R_drewN | apply Kd.R_drew)); exact HO_399001.out) hb)
              have n1_ := am (Kd.R_below (by (with_reducible repeat (first | apply Kd.R_alloc | apply Kd.R_drewN | apply Kd.R_drew)); exact HO_418001.out) hb)
              have n2_ := bb BK370 hb
              have n3_ := bb BK371 hb
              have n4_ := bb BK398 hb
              have n5_ := bb BK417 hb
              have n6_ := am (below_step pw hb)
              have n7_ := am (hbox)
              have n8_ := am ((by rw [hg]; exact (below_size pw) : w.heap.size ≤ gb437))
              have n9_ := am ((by rw [hg]; exact (below_size pw) : w.heap.size ≤ gb437))
              have n10_ := am ((by rw [hg]; exact Nat.ne_of_lt (blk_lt pk) : gb370 ≠ gb437))
              have n11_ := am ((by rw [hg]; exact Nat.ne_of_gt (blk_lt pk) : gb437 ≠ gb370))
              have n12_ := am ((by rw [hg]; exact Nat.ne_of_lt (blk_lt pk) : gb371 ≠ gb437))
              have n13_ := am ((by rw [hg]; exact Nat.ne_of_gt (blk_lt pk) : gb437 ≠ gb371))
              have n14_ := am ((by rw [hg]; exact Nat.ne_of_lt (blk_lt pk) : gb398 ≠ gb437))
              have n15_ := am ((by rw [hg]; exact Nat.ne_of_gt (blk_lt pk) : gb437 ≠ gb398))
              have n16_ := am ((by rw [hg]; exact Nat.ne_of_lt (blk_lt pk) : gb417 ≠ gb437))
              have n17_ := am ((by rw [hg]; exact Nat.ne_of_gt (blk_lt pk) : gb437 ≠ gb417))
              clear HO_399001 HO_418001 BK370 BK371 BK398 BK417 HB
              revert n0_ n1_ n2_ n3_ n4_ n5_ n6_ n7_ n8_ n9_ n10_ n11_ n12_ n13_ n14_ n15_ n16_ n17_
              intro HO_399001 HO_418001 BK370 BK371 BK398 BK417 HB BK437 GW437 GE437 NB370_437 NB437_370 NB371_437 NB437_371 NB398_437 NB437_398 NB417_437 NB437_417
              clear hb hbox hg
              refine hK.out _ _ ⟨bc BK370 0, bc BK370 1, bc BK371 0, bc BK371 1⟩ (fun hHeld => ?_)
              clear hK K
              refine norm_ (a' := ?_) ?_ ?_
              rotate_left
              ·show Act.put _ (some 21) _ = _
               simp only [Act.put, List.setIfInBounds_toArray, List.set_cons_zero, List.set_cons_succ, i64_w, i32_w]
               rfl
              refine one_ (i := 1) (N := some 180) #[true, true, true, false, false, false, false, false, true, false, false] rfl rfl (one_of HT_.out kk) (by decide) (fun K hK => ?_)
              refine goes_ Tryd.func23 kk rfl #[.agg #[.int .i64 a0_0, .slice A0_1 l0_1.length c0_1]] (by rfl) rfl rfl (by (try simp only [List.map_toArray, List.map_cons, List.map_nil]); first | done | rfl | (simp only [List.length_drop, List.length_take]; rfl)) ?_
              with_reducible refine (L2_zoneOf.calls kj121 a0_0 _ _ l0_1 t424 t425 _ ?side1 ?side2 A129.out).mono ?_
              (case side1 => repeat (first | exact (Kd.C_below HR0_1.out HB.out) | (with_reducible refine Kd.C_alloc ?_ _) | (with_reducible refine Kd.C_drewN ?_ _) | (with_reducible refine Kd.C_drew ?_)))
              (case side2 => exact HC0_1.out)
              rintro e w152 ⟨v426, rfl, ho0, hb⟩
              refine ⟨_, rfl, ?_⟩
              have n0_ := am (Kd.R_elder' (by (with_reducible repeat (first | apply Kd.R_alloc | apply Kd.R_drewN | apply Kd.R_drew)); exact HO_399001.out) (Kd.R_base ho0) hb)
              have n1_ := am (Kd.R_elder' (by (with_reducible repeat (first | apply Kd.R_alloc | apply Kd.R_drewN | apply Kd.R_drew)); exact HO_418001.out) (Kd.R_base ho0) hb)
              have n2_ := am (Kd.R_lower (Kd.R_new' (Kd.R_new' ho0 (Kd.R_lt (by (with_reducible repeat (first | apply Kd.R_alloc | apply Kd.R_drewN | apply Kd.R_drew)); exact HO_399001.out))) (Kd.R_lt (by (with_reducible repeat (first | apply Kd.R_alloc | apply Kd.R_drewN | apply Kd.R_drew)); exact HO_418001.out))) (below_size pw))
              have n3_ := bb BK370 hb
              have n4_ := bb BK371 hb
              have n5_ := bb BK398 hb
              have n6_ := bb BK417 hb
              have n7_ := bb BK437 hb
              have n8_ := am (below_step pw hb)
              clear HO_399001 HO_418001 BK370 BK371 BK398 BK417 BK437 HB
              revert n0_ n1_ n2_ n3_ n4_ n5_ n6_ n7_ n8_
              intro HO_399001 HO_418001 HO427 BK370 BK371 BK398 BK417 BK437 HB
              (try clear hb)
              (try clear hb2)
              (try clear hk)
              (try clear hi)
              (try clear ho0)
              refine hK.out _ _ ⟨bc BK370 0, bc BK370 1, bc BK371 0, bc BK371 1⟩ (fun hHeld => ?_)
              clear hK K
              refine norm_ (a' := ?_) ?_ ?_
              rotate_left
              ·show Act.put _ (some 180) _ = _
               simp only [Act.put, List.setIfInBounds_toArray, List.set_cons_zero, List.set_cons_succ, i64_w, i32_w]
               rfl
              refine one_ (i := 3) (N := some 182) #[true, true, true, true, false, false, false, false, true, false, false] rfl rfl (one_of HT_.out kk) (by decide) (fun K hK => ?_)
              refine goes_ Tryd.func23 kk rfl #[.agg #[.int .i64 a1_0, .slice A1_1 l1_1.length c1_1]] (by rfl) rfl rfl (by (try simp only [List.map_toArray, List.map_cons, List.map_nil]); first | done | rfl | (simp only [List.length_drop, List.length_take]; rfl)) ?_
              with_reducible refine (L2_zoneOf.calls kj121 a1_0 _ _ l1_1 t428 t429 _ ?side1 ?side2 A130.out).mono ?_
              (case side1 => repeat (first | exact (Kd.C_below HR1_1.out HB.out) | (with_reducible refine Kd.C_alloc ?_ _) | (with_reducible refine Kd.C_drewN ?_ _) | (with_reducible refine Kd.C_drew ?_)))
              (case side2 => exact HC1_1.out)
              rintro e w153 ⟨v430, rfl, ho0, hb⟩
              refine ⟨_, rfl, ?_⟩
              have n0_ := am (Kd.R_elder' (by (with_reducible repeat (first | apply Kd.R_alloc | apply Kd.R_drewN | apply Kd.R_drew)); exact HO_399001.out) (Kd.R_base ho0) hb)
              have n1_ := am (Kd.R_elder' (by (with_reducible repeat (first | apply Kd.R_alloc | apply Kd.R_drewN | apply Kd.R_drew)); exact HO_418001.out) (Kd.R_base ho0) hb)
              have n2_ := am (Kd.R_elder' (by (with_reducible repeat (first | apply Kd.R_alloc | apply Kd.R_drewN | apply Kd.R_drew)); exact HO427.out) (Kd.R_base ho0) hb)
              have n3_ := am (Kd.R_lower (Kd.R_new' (Kd.R_new' (Kd.R_new' ho0 (Kd.R_lt (by (with_reducible repeat (first | apply Kd.R_alloc | apply Kd.R_drewN | apply Kd.R_drew)); exact HO_399001.out))) (Kd.R_lt (by (with_reducible repeat (first | apply Kd.R_alloc | apply Kd.R_drewN | apply Kd.R_drew)); exact HO_418001.out))) (Kd.R_lt (by (with_reducible repeat (first | apply Kd.R_alloc | apply Kd.R_drewN | apply Kd.R_drew)); exact HO427.out))) (below_size pw))
              have n4_ := bb BK370 hb
              have n5_ := bb BK371 hb
              have n6_ := bb BK398 hb
              have n7_ := bb BK417 hb
              have n8_ := bb BK437 hb
              have n9_ := am (below_step pw hb)
              clear HO_399001 HO_418001 HO427 BK370 BK371 BK398 BK417 BK437 HB
              revert n0_ n1_ n2_ n3_ n4_ n5_ n6_ n7_ n8_ n9_
              intro HO_399001 HO_418001 HO427 HO431 BK370 BK371 BK398 BK417 BK437 HB
              (try clear hb)
              (try clear hb2)
              (try clear hk)
              (try clear hi)
              (try clear ho0)
              obtain ⟨Ao154, co154, eo154⟩ := Kd.R_slice HO427.out
              (first | subst eo154 | (injection eo154 with f1_ f2_ f3_; have f4_ := f1_.symm; have f5_ := f3_.symm; clear f1_ f2_ f3_; subst f4_; subst f5_))
              obtain ⟨Ao155, co155, eo155⟩ := Kd.R_slice HO431.out
              (first | subst eo155 | (injection eo155 with f1_ f2_ f3_; have f4_ := f1_.symm; have f5_ := f3_.symm; clear f1_ f2_ f3_; subst f4_; subst f5_))
              refine hK.out _ _ ⟨bc BK370 0, bc BK370 1, bc BK371 0, bc BK371 1⟩ (fun hHeld => ?_)
              clear hK K
              refine norm_ (a' := ?_) ?_ ?_
              rotate_left
              ·show Act.put _ (some 182) _ = _
               simp only [Act.put, List.setIfInBounds_toArray, List.set_cons_zero, List.set_cons_succ, i64_w, i32_w]
               rfl
              refine one_ (i := 4) (N := some 183) #[true, true, true, true, true, false, false, false, true, false, false] rfl rfl (one_of HT_.out kk) (by decide) (fun K hK => ?_)
              refine goes_ Tryd.func46 kk rfl #[.agg #[.int .i64 t424, .slice Ao154 t425.length co154], .agg #[.int .i64 t428, .slice Ao155 t429.length co155]] (by rfl) rfl rfl (by (try simp only [List.map_toArray, List.map_cons, List.map_nil]); first | done | rfl | (simp only [List.length_drop, List.length_take]; rfl)) ?_
              with_reducible refine (zone_Join.calls t424 _ _ t425 t428 _ _ t429 t432 t433 (some q438) _ ?side1 ?side2 ?side3 ?side4 A131.out (am (ErrAt.below hE2.out pw)).out (am (ErrAt.below hE3.out pw)).out (am (ErrAt.below hE4.out pw)).out).mono ?_
              (case side1 => repeat (first | exact (Kd.R_reads' HO427.out).2.2 | (with_reducible refine Kd.C_alloc ?_ _) | (with_reducible refine Kd.C_drewN ?_ _) | (with_reducible refine Kd.C_drew ?_)))
              (case side2 => exact (Kd.R_reads' HO427.out).2.1)
              (case side3 => repeat (first | exact (Kd.R_reads' HO431.out).2.2 | (with_reducible refine Kd.C_alloc ?_ _) | (with_reducible refine Kd.C_drewN ?_ _) | (with_reducible refine Kd.C_drew ?_)))
              (case side4 => exact (Kd.R_reads' HO431.out).2.1)
              rintro e w156 ⟨v434, rfl, ho0, hb⟩
              refine ⟨_, rfl, ?_⟩
              have n0_ := am (Kd.R_elder' (by (with_reducible repeat (first | apply Kd.R_alloc | apply Kd.R_drewN | apply Kd.R_drew)); exact HO_399001.out) (Kd.R_base ho0) hb)
              have n1_ := am (Kd.R_elder' (by (with_reducible repeat (first | apply Kd.R_alloc | apply Kd.R_drewN | apply Kd.R_drew)); exact HO_418001.out) (Kd.R_base ho0) hb)
              have n2_ := am (Kd.R_elder' (by (with_reducible repeat (first | apply Kd.R_alloc | apply Kd.R_drewN | apply Kd.R_drew)); exact HO427.out) (Kd.R_base ho0) hb)
              have n3_ := am (Kd.R_elder' (by (with_reducible repeat (first | apply Kd.R_alloc | apply Kd.R_drewN | apply Kd.R_drew)); exact HO431.out) (Kd.R_base ho0) hb)
              have n4_ := am (Kd.R_lower (Kd.R_new' (Kd.R_new' (Kd.R_new' (Kd.R_new' ho0 (Kd.R_lt (by (with_reducible repeat (first | apply Kd.R_alloc | apply Kd.R_drewN | apply Kd.R_drew)); exact HO_399001.out))) (Kd.R_lt (by (with_reducible repeat (first | apply Kd.R_alloc | apply Kd.R_drewN | apply Kd.R_drew)); exact HO_418001.out))) (Kd.R_lt (by (with_reducible repeat (first | apply Kd.R_alloc | apply Kd.R_drewN | apply Kd.R_drew)); exact HO427.out))) (Kd.R_lt (by (with_reducible repeat (first | apply Kd.R_alloc | apply Kd.R_drewN | apply Kd.R_drew)); exact HO431.out))) (below_size pw))
              have n5_ := bb BK370 hb
              have n6_ := bb BK371 hb
              have n7_ := bb BK398 hb
              have n8_ := bb BK417 hb
              have n9_ := bb BK437 hb
              have n10_ := am (below_step pw hb)
              clear HO_399001 HO_418001 HO427 HO431 BK370 BK371 BK398 BK417 BK437 HB
              revert n0_ n1_ n2_ n3_ n4_ n5_ n6_ n7_ n8_ n9_ n10_
              intro HO_399001 HO_418001 HO427 HO431 HO435 BK370 BK371 BK398 BK417 BK437 HB
              (try clear hb)
              (try clear hb2)
              (try clear hk)
              (try clear hi)
              (try clear ho0)
              (try simp only [errW_none, errW_some])
              refine hK.out _ _ ⟨bc BK370 0, bc BK370 1, bc BK371 0, bc BK371 1⟩ (fun hHeld => ?_)
              clear hK K
              refine norm_ (a' := ?_) ?_ ?_
              rotate_left
              ·show Act.put _ (some 183) _ = _
               simp only [Act.put, List.setIfInBounds_toArray, List.set_cons_zero, List.set_cons_succ, i64_w, i32_w]
               rfl
              refine pure_ (i := 5) (N := some 178) (v := ?_) (a' := ?_) #[true, true, true, true, true, true, false, false, true, false, false] rfl rfl (any_of HT_.out kk) (fun _ _ _ h => h) (Or.inl ⟨by rfl, ?_⟩) ?_ ?_
              rotate_left
              ·intro w'
               go_simp
               with_reducible rfl
              rotate_left
              ·simp only [Act.put, List.setIfInBounds_toArray, List.set_cons_zero, List.set_cons_succ, i64_w, i32_w]
               rfl
              refine pure_ (i := 6) (N := some 184) (v := ?_) (a' := ?_) #[true, true, true, true, true, true, true, false, true, false, false] rfl rfl (any_of HT_.out kk) (fun _ _ _ h => h) (Or.inl ⟨by rfl, ?_⟩) ?_ ?_
              rotate_left
              ·intro w'
               go_simp
               with_reducible rfl
              rotate_left
              ·simp only [Act.put, List.setIfInBounds_toArray, List.set_cons_zero, List.set_cons_succ, i64_w, i32_w]
               rfl
              refine pure_ (i := 7) (N := some 185) (v := ?_) (a' := ?_) #[true, true, true, true, true, true, true, true, true, false, false] rfl rfl (any_of HT_.out kk) (fun _ _ _ h => h) (Or.inl ⟨by rfl, ?_⟩) ?_ ?_
              rotate_left
              ·intro w'
               go_simp
               with_reducible rfl
              rotate_left
              ·simp only [Act.put, List.setIfInBounds_toArray, List.set_cons_zero, List.set_cons_succ, i64_w, i32_w]
               rfl
              exact norm_ (by simp only [putAll, Act.put, List.setIfInBounds_toArray, List.set_cons_zero, List.set_cons_succ, errW_none, errW_some]) (hCont (.slice Ao154 t425.length co154, .slice Ao155 t429.length co155, v434, gb437) _ ⟨hHeld, (by (with_reducible repeat (first | apply Kd.R_alloc | apply Kd.R_drewN | apply Kd.R_drew)); exact Kd.R_mono HO427.out (fun _ hk => ⟨hk.1.2, ⟨hk.2, ⟨hk.1.1.1.2, hk.1.1.2⟩⟩⟩)), (by (with_reducible repeat (first | apply Kd.R_alloc | apply Kd.R_drewN | apply Kd.R_drew)); exact Kd.R_mono HO431.out (fun _ hk => ⟨hk.1.2, ⟨hk.2, ⟨hk.1.1.1.2, hk.1.1.2⟩⟩⟩)), (by (with_reducible repeat (first | apply Kd.R_alloc | apply Kd.R_drewN | apply Kd.R_drew)); exact Kd.R_mono HO435.out (fun _ hk => ⟨hk.1.2, ⟨hk.2, ⟨hk.1.1.1.2, hk.1.1.2⟩⟩⟩)), (by (with_reducible repeat (first | apply Kd.R_alloc | apply Kd.R_drewN | apply Kd.R_drew)); exact Kd.R_mono HO_399001.out (fun _ hk => ⟨hk.1.1.2, ⟨hk.1.2, ⟨hk.2, hk.1.1.1⟩⟩⟩)), (by (with_reducible repeat (first | apply Kd.R_alloc | apply Kd.R_drewN | apply Kd.R_drew)); exact Kd.R_mono HO_418001.out (fun _ hk => ⟨hk.1.1.2, ⟨hk.1.2, ⟨hk.2, hk.1.1.1⟩⟩⟩)), pk, pk, pk, pk, pk, GW437.out, GE437.out, NB370_437.out, NB437_370.out, NB371_437.out, NB437_371.out, NB398_437.out, NB437_398.out, NB417_437.out, NB437_417.out, pw⟩)
             rintro ⟨v426, v430, v434, gb437⟩ w157 ⟨hS_, h0_, h1_, h2_, h3_, h4_, h5_, h6_, h7_, h8_, h9_, h10_, h11_, h12_, h13_, h14_, h15_, h16_, h17_, h18_, h19_, h20_⟩
             have n0_ : Aside0 (Kd.R k42 42 w157 w.heap.size (fun k_ => some k_ ≠ (v430 : Value).ownBlock ∧ some k_ ≠ (v434 : Value).ownBlock ∧ some k_ ≠ (.slice Ao77 t393.length co77 : Value).ownBlock ∧ some k_ ≠ (.slice Ao108 t412.length co108 : Value).ownBlock) v426 t425) := ⟨h0_⟩
             have n1_ : Aside0 (Kd.R k42 42 w157 w.heap.size (fun k_ => some k_ ≠ (v426 : Value).ownBlock ∧ some k_ ≠ (v434 : Value).ownBlock ∧ some k_ ≠ (.slice Ao77 t393.length co77 : Value).ownBlock ∧ some k_ ≠ (.slice Ao108 t412.length co108 : Value).ownBlock) v430 t429) := ⟨h1_⟩
             have n2_ : Aside0 (Kd.R k42 42 w157 w.heap.size (fun k_ => some k_ ≠ (v426 : Value).ownBlock ∧ some k_ ≠ (v430 : Value).ownBlock ∧ some k_ ≠ (.slice Ao77 t393.length co77 : Value).ownBlock ∧ some k_ ≠ (.slice Ao108 t412.length co108 : Value).ownBlock) v434 t433) := ⟨h2_⟩
             have n3_ : Aside0 (Kd.R k42 42 w157 w.heap.size (fun k_ => some k_ ≠ (v426 : Value).ownBlock ∧ some k_ ≠ (v430 : Value).ownBlock ∧ some k_ ≠ (v434 : Value).ownBlock ∧ some k_ ≠ (.slice Ao108 t412.length co108 : Value).ownBlock) (.slice Ao77 t393.length co77) t393) := ⟨h3_⟩
             have n4_ : Aside0 (Kd.R k42 42 w157 w.heap.size (fun k_ => some k_ ≠ (v426 : Value).ownBlock ∧ some k_ ≠ (v430 : Value).ownBlock ∧ some k_ ≠ (v434 : Value).ownBlock ∧ some k_ ≠ (.slice Ao77 t393.length co77 : Value).ownBlock) (.slice Ao108 t412.length co108) t412) := ⟨h4_⟩
             have n5_ : Aside0 (w157.heap[gb370]? = some (.cells #[.int .i64 a0_0, .slice A0_1 l0_1.length c0_1] 33 (0, 0))) := ⟨h5_⟩
             have n6_ : Aside0 (w157.heap[gb371]? = some (.cells #[.int .i64 a1_0, .slice A1_1 l1_1.length c1_1] 33 (0, 0))) := ⟨h6_⟩
             have n7_ : Aside0 (w157.heap[gb398]? = some (.cells #[.int .i64 t392, .slice Ao77 t393.length co77] 37 (0, 0))) := ⟨h7_⟩
             have n8_ : Aside0 (w157.heap[gb417]? = some (.cells #[.int .i64 t411, .slice Ao108 t412.length co108] 37 (0, 0))) := ⟨h8_⟩
             have n9_ : Aside0 (w157.heap[gb437]? = some (.cells #[.int .i64 0, .slice none 0 0] 37 (0, 0))) := ⟨h9_⟩
             have n10_ : Aside0 (w.heap.size ≤ gb437) := ⟨h10_⟩
             have n11_ : Aside0 (w.heap.size ≤ gb437) := ⟨h11_⟩
             have n12_ : Aside0 (gb370 ≠ gb437) := ⟨h12_⟩
             have n13_ : Aside0 (gb437 ≠ gb370) := ⟨h13_⟩
             have n14_ : Aside0 (gb371 ≠ gb437) := ⟨h14_⟩
             have n15_ : Aside0 (gb437 ≠ gb371) := ⟨h15_⟩
             have n16_ : Aside0 (gb398 ≠ gb437) := ⟨h16_⟩
             have n17_ : Aside0 (gb437 ≠ gb398) := ⟨h17_⟩
             have n18_ : Aside0 (gb417 ≠ gb437) := ⟨h18_⟩
             have n19_ : Aside0 (gb437 ≠ gb417) := ⟨h19_⟩
             have n20_ : Aside0 (Below w.heap.size w w157) := ⟨h20_⟩
             clear HO_399001
             clear HO_418001
             clear BK370
             clear BK371
             clear BK398
             clear BK417
             clear HB
             clear h0_ h1_ h2_ h3_ h4_ h5_ h6_ h7_ h8_ h9_ h10_ h11_ h12_ h13_ h14_ h15_ h16_ h17_ h18_ h19_ h20_
             revert n0_ n1_ n2_ n3_ n4_ n5_ n6_ n7_ n8_ n9_ n10_ n11_ n12_ n13_ n14_ n15_ n16_ n17_ n18_ n19_ n20_
             intro HO427 HO431 HO435 HO_399001 HO_418001 BK370 BK371 BK398 BK417 BK437 GW437 GE437 NB370_437 NB437_370 NB371_437 NB437_371 NB398_437 NB437_398 NB417_437 NB437_417 HB
             have hHeld : w157.cell? ⟨gb370, 0, none⟩ = some (.int .i64 a0_0) ∧ w157.cell? ⟨gb370, 1, none⟩ = some (.slice A0_1 l0_1.length c0_1) ∧ w157.cell? ⟨gb371, 0, none⟩ = some (.int .i64 a1_0) ∧ w157.cell? ⟨gb371, 1, none⟩ = some (.slice A1_1 l1_1.length c1_1) := hS_
             obtain ⟨Ao159, co159, eo159⟩ := Kd.R_slice HO435.out
             (first | subst eo159 | (injection eo159 with f1_ f2_ f3_; have f4_ := f1_.symm; have f5_ := f3_.symm; clear f1_ f2_ f3_; subst f4_; subst f5_))
             refine norm_ (a' := ?_) ?_ ?_
             rotate_left
             ·simp only [putAll, Act.put, List.setIfInBounds_toArray, List.set_cons_zero, List.set_cons_succ]
              rfl
             refine one_ (i := 9) (N := none) #[true, true, true, true, true, true, true, true, true, true, false] rfl rfl (one_of HT_.out kk) (by decide) (fun K hK => ?_)
             have hs158 : w157.cell? ⟨gb437, 0, none⟩ = some (.int .i64 0) := bc BK437 0
             have hfs158 := blk_frozen BK437.out 0
             have hns158_0 := NB370_437.out
             have hns158_1 := NB371_437.out
             have hns158_2 := NB398_437.out
             have hns158_3 := NB417_437.out
             have hms158_0 := NB437_370.out
             have hms158_1 := NB437_371.out
             have hms158_2 := NB437_398.out
             have hms158_3 := NB437_417.out
             have hs160 : w157.cell? ⟨gb437, 1, none⟩ = some (.slice none 0 0) := bc BK437 1
             have hfs160 := blk_frozen BK437.out 1
             have hns160_0 := NB370_437.out
             have hns160_1 := NB371_437.out
             have hns160_2 := NB398_437.out
             have hns160_3 := NB417_437.out
             have hms160_0 := NB437_370.out
             have hms160_1 := NB437_371.out
             have hms160_2 := NB437_398.out
             have hms160_3 := NB437_417.out
             refine skip_ (w1 := ?_) (by rfl) rfl ?_ ?_
             rotate_left
             ·go_simp
              rfl
             refine hK.out _ _ ⟨((cell_far (p := ⟨gb437, _, none⟩) NB370_437.out _).trans (((cell_far (p := ⟨gb437, _, none⟩) NB370_437.out _).trans (hHeld.1)))), ((cell_far (p := ⟨gb437, _, none⟩) NB370_437.out _).trans (((cell_far (p := ⟨gb437, _, none⟩) NB370_437.out _).trans (hHeld.2.1)))), ((cell_far (p := ⟨gb437, _, none⟩) NB371_437.out _).trans (((cell_far (p := ⟨gb437, _, none⟩) NB371_437.out _).trans (hHeld.2.2.1)))), ((cell_far (p := ⟨gb437, _, none⟩) NB371_437.out _).trans (((cell_far (p := ⟨gb437, _, none⟩) NB371_437.out _).trans (hHeld.2.2.2))))⟩ (fun hHeld => ?_)
             clear hK K
             refine pure_ (i := 10) (N := some 15) (v := ?_) (a' := ?_) #[true, true, true, true, true, true, true, true, true, true, true] rfl rfl (any_of HT_.out kk) (fun _ _ _ h => h) (Or.inl ⟨by rfl, ?_⟩) ?_ ?_
             rotate_left
             ·intro w'
              go_simp
              with_reducible rfl
             rotate_left
             ·simp only [Act.put, List.setIfInBounds_toArray, List.set_cons_zero, List.set_cons_succ, i64_w, i32_w]
              rfl
             refine done_ (done_of HT_.out kk) ?_
             (try simp only [errW_none, errW_some])
             try go_wp2
             go_ret
             exact ⟨by first | rfl | (simp [errW_none, errW_some] <;> rfl) | (simp only [← hji80]; first | rfl | (simp [errW_none, errW_some] <;> rfl)) | (simp [*, errW_none, errW_some] <;> rfl), pw⟩
       rw [if_neg c82] at H
       exact absurd H (by simp)
      rw [if_neg c81] at H
      exact absurd H (by simp)

end Go.Proofs.YtjpboodkmhikpaaDoor.Z
