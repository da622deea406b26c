-- Written by wip/xprint.py (the session's program over the kit's print).
import Derived.Test.YtjpboodkmhikpaaDoorEb
import Derived.Test.YtjpboodkmhikpaaDoorFld
import Derived.Test.YtjpboodkmhikpaaDoorZn
import Derived.Test.YtjpboodkmhikpaaDoorZ0
import Derived.Test.YtjpboodkmhikpaaDoorZ3
import Derived.Test.YtjpboodkmhikpaaDoorZ4
import Derived.Test.YtjpboodkmhikpaaDoorZ5
namespace Go.Proofs.YtjpboodkmhikpaaDoor.Z
open Go.RowKit Go.Proofs.YtjpboodkmhikpaaDoorW.PrintWords Go.Proofs.YtjpboodkmhikpaaDoorW.PrintLast Go.Proofs.YtjpboodkmhikpaaDoorW.PrintMore Go.Proofs.Rcg
attribute [local go_sem] Go.Proofs.Rcg.fld_zone1 Go.Proofs.Rcg.fld_rzone1 max2_int min2_int max_two min_two max_three min_three max_four min_four   -- for this text's walks alone
set_option linter.unusedVariables false
set_option linter.unusedSimpArgs false

/-! ### L2_ZoneStays: function 6 -/
mutual
def L2_ZoneStays.j0 : Nat → List (S33) → Bool → Bool → Int → List (S112) → Option (Bool)
 | 0, _, _, _, _, _ => none
 | k + 1, x1, x5, x24, x208000, x208001 => if x24 = true then (some x5) else ((L2_zoneOf.f k x208000 x208001).bind fun bt209 => (L2_ZoneStays.l0 k x1 0 0 x208000 x208001 bt209.1 bt209.2))
def L2_ZoneStays.l0 : Nat → List (S33) → Int → Int → Int → List (S112) → Int → List (S42) → Option (Bool)
 | 0, _, _, _, _, _, _, _ => none
 | k + 1, x1, x7, x8, x208000, x208001, x214000, x214001 => if x8 < (x1.length : Int) then (if 0 ≤ x8 then (if (((rd_T33 x1 x8).f1).length : Int) > 100 then (some true) else ((L2_zoneOf.f k ((rd_T33 x1 x8).f0) ((rd_T33 x1 x8).f1)).bind fun bt216 => ((zone_Widen.f x214000 x214001 bt216.1 bt216.2).bind fun bt220 => (if bt220.2.2.isNone = true then ((L2_zoneBack.f k x214000 x214001).bind fun bt227 => ((L2_isZone.f k bt220.1 bt220.2.1 bt227.1 bt227.2).bind fun t231 => (if t231 = true then (L2_ZoneStays.l0 k x1 x7 (wrap64 (x8 + 1)) x208000 x208001 bt220.1 bt220.2.1) else (L2_ZoneStays.l0 k x1 (wrap64 (x7 + 1)) (wrap64 (x8 + 1)) x208000 x208001 bt220.1 bt220.2.1)))) else (some true))))) else (none)) else (some (decide (x7 ≤ (wrap64 ((x208001.length : Int) + 1)))))
end
def L2_ZoneStays.f (k : Nat) (a0_0 : Int) (l0_1 : List (S112)) (l1 : List (S33)) : Option (Bool) := (L2_free.f k).bind fun t208 => (if t208 = true then (if (l0_1.length : Int) > 100 then (L2_ZoneStays.j0 k l1 t208 true a0_0 l0_1) else (L2_ZoneStays.j0 k l1 t208 (decide ((l1.length : Int) > 40)) a0_0 l0_1)) else (L2_ZoneStays.j0 k l1 t208 true a0_0 l0_1))
theorem L2_ZoneStays.mono_l : ∀ k, (∀ y0 y1 y2 y3 y4, LeO (L2_ZoneStays.j0 k y0 y1 y2 y3 y4) (L2_ZoneStays.j0 (k + 1) y0 y1 y2 y3 y4)) ∧ (∀ y0 y1 y2 y3 y4 y5 y6, LeO (L2_ZoneStays.l0 k y0 y1 y2 y3 y4 y5 y6) (L2_ZoneStays.l0 (k + 1) y0 y1 y2 y3 y4 y5 y6))
 | 0 => ⟨fun _ _ _ _ _ r h => by simp [L2_ZoneStays.j0] at h, fun _ _ _ _ _ _ _ r h => by simp [L2_ZoneStays.l0] at h⟩
 | k + 1 => by
  obtain ⟨ih0, ih1⟩ := L2_ZoneStays.mono_l k
  refine ⟨?_, ?_⟩
  ·intro y0 y1 y2 y3 y4
   unfold L2_ZoneStays.j0
   repeat' first
   | (with_reducible exact ih0 _ _ _ _ _)
   | (with_reducible exact ih1 _ _ _ _ _ _ _)
   | (with_reducible exact L2_free.mono _)
   | (with_reducible exact L2_isZone.mono _ _ _ _ _)
   | (with_reducible exact L2_zoneBack.mono _ _ _)
   | (with_reducible exact L2_zoneOf.mono _ _ _)
   | (with_reducible exact LeO.refl _)
   | (with_reducible exact LeO.none _)
   | (with_reducible refine LeO.ite ?_ ?_)
   | (with_reducible refine LeO.bind ?_ (fun _ => ?_))
   | exact ih0 _ _ _ _ _
   | exact ih1 _ _ _ _ _ _ _
   | exact L2_free.mono _
   | exact L2_isZone.mono _ _ _ _ _
   | exact L2_zoneBack.mono _ _ _
   | exact L2_zoneOf.mono _ _ _
   | exact LeO.none _
   | refine LeO.ite ?_ ?_
   | refine LeO.bind ?_ (fun _ => ?_)
  intro y0 y1 y2 y3 y4 y5 y6
  unfold L2_ZoneStays.l0
  repeat' first
  | (with_reducible exact ih0 _ _ _ _ _)
  | (with_reducible exact ih1 _ _ _ _ _ _ _)
  | (with_reducible exact L2_free.mono _)
  | (with_reducible exact L2_isZone.mono _ _ _ _ _)
  | (with_reducible exact L2_zoneBack.mono _ _ _)
  | (with_reducible exact L2_zoneOf.mono _ _ _)
  | (with_reducible exact LeO.refl _)
  | (with_reducible exact LeO.none _)
  | (with_reducible refine LeO.ite ?_ ?_)
  | (with_reducible refine LeO.bind ?_ (fun _ => ?_))
  | exact ih0 _ _ _ _ _
  | exact ih1 _ _ _ _ _ _ _
  | exact L2_free.mono _
  | exact L2_isZone.mono _ _ _ _ _
  | exact L2_zoneBack.mono _ _ _
  | exact L2_zoneOf.mono _ _ _
  | exact LeO.none _
  | refine LeO.ite ?_ ?_
  | refine LeO.bind ?_ (fun _ => ?_)
theorem L2_ZoneStays.mono : ∀ a0 a1 a2 k, LeO (L2_ZoneStays.f k a0 a1 a2) (L2_ZoneStays.f (k + 1) a0 a1 a2) := by
 intro a0 a1 a2 k
 obtain ⟨ih0, ih1⟩ := L2_ZoneStays.mono_l k
 unfold L2_ZoneStays.f
 repeat' first
   | (with_reducible exact ih0 _ _ _ _ _)
   | (with_reducible exact ih1 _ _ _ _ _ _ _)
   | (with_reducible exact L2_free.mono _)
   | (with_reducible exact L2_isZone.mono _ _ _ _ _)
   | (with_reducible exact L2_zoneBack.mono _ _ _)
   | (with_reducible exact L2_zoneOf.mono _ _ _)
   | (with_reducible exact LeO.refl _)
   | (with_reducible exact LeO.none _)
   | (with_reducible refine LeO.ite ?_ ?_)
   | (with_reducible refine LeO.bind ?_ (fun _ => ?_))
   | exact ih0 _ _ _ _ _
   | exact ih1 _ _ _ _ _ _ _
   | exact L2_free.mono _
   | exact L2_isZone.mono _ _ _ _ _
   | exact L2_zoneBack.mono _ _ _
   | exact L2_zoneOf.mono _ _ _
   | exact LeO.none _
   | refine LeO.ite ?_ ?_
   | refine LeO.bind ?_ (fun _ => ?_)
def L2_ZoneStays.T11 : Bool × List (List Nat × List Nat) := (true, [([], []), ([], []), ([], []), ([1, 2], [1, 2]), ([3], [3]), ([4], [4]), ([0, 5, 5], [0, 5]), ([6], [6]), ([7], [7]), ([7], [7]), ([], []), ([10, 8, 6, 0, 1, 2, 3, 4, 5, 6, 7, 8, 10], [8, 10]), ([9, 11, 0, 1, 2, 3, 4, 5, 6, 7, 8, 9, 10, 11], [9])])
def L2_ZoneStays.B11 : List Nat := [0, 0, 0, 6, 14, 30, 63, 127, 255, 255, 0, 1535, 4095]
theorem L2_ZoneStays.tab11 : rtab .any (opsOf Tryd.f6 11) = L2_ZoneStays.T11 := by kernel_rfl
theorem L2_ZoneStays.bits11 : waitsOk L2_ZoneStays.T11.2 L2_ZoneStays.B11 = true := by kernel_rfl
set_option maxHeartbeats 8000000 in
set_option maxRecDepth 100000 in
theorem L2_ZoneStays.calls [EA] (k : Nat) (a0_0 : Int) (A0_1 : Option Addr) (c0_1 : Nat) (l0_1 : List (S112)) (A1 : Option Addr) (c1 : Nat) (l1 : List (S33)) (r : Bool) (w : World) (hr0_1 : Kd.C k112 w A0_1 l0_1.length l0_1) (hc0_1 : l0_1.length ≤ c0_1) (hr1 : Kd.C k33 w A1 l1.length l1) (hc1 : l1.length ≤ c1) (h : L2_ZoneStays.f k a0_0 l0_1 l1 = some r) (h2_ : ErrAt 2 1 w) (h3_ : ErrAt 3 0 w) :
  Calls Tryd.prog 6 #[.agg #[.int .i64 a0_0, .slice A0_1 l0_1.length c0_1], .slice A1 l1.length c1] w fun e w' => e = .returned (.bool r) ∧ Below w.heap.size w w' := by
 have hE2 := am h2_
 clear h2_
 have hE3 := am h3_
 clear h3_
 have hu33 := Tryd.underlying33
 have hu37 := Tryd.underlying37
 have hu26 := Tryd.underlying26
 have HR0_1 := am hr0_1
 have HC0_1 := am hc0_1
 clear hr0_1 hc0_1
 have HR1 := am hr1
 have HC1 := am hc1
 clear hr1 hc1
 have HB := am (Below.refl w.heap.size w)
 have H : ((L2_free.f k).bind fun t208 => (if t208 = true then (if (l0_1.length : Int) > 100 then (L2_ZoneStays.j0 k l1 t208 true a0_0 l0_1) else (L2_ZoneStays.j0 k l1 t208 (decide ((l1.length : Int) > 40)) a0_0 l0_1)) else (L2_ZoneStays.j0 k l1 t208 true a0_0 l0_1))) = some r := h
 clear h
 replace H := Option.bind_eq_some_iff.mp H
 obtain ⟨t208, A30, H⟩ := H
 replace H : (if t208 = true then (if (l0_1.length : Int) > 100 then (L2_ZoneStays.j0 k l1 t208 true a0_0 l0_1) else (L2_ZoneStays.j0 k l1 t208 (decide ((l1.length : Int) > 40)) a0_0 l0_1)) else (L2_ZoneStays.j0 k l1 t208 true a0_0 l0_1)) = some r := H
 have A3 := am A30
 clear A30
 have HC4 := am H
 clear H
 go_enter Tryd.func6, Tryd.ntmps6
 go_upto_region 2 with (first | ((with_reducible refine gate_dst (N := 2) rfl ?_); (try (refine gate_guard (by rfl) ?_; dsimp only)); refine box_event ?hg (N := 2) ?hd (cs := #[.int .i64 a0_0, .slice A0_1 l0_1.length c0_1]) (t := 33) ?hr ?_; (case hd => rfl); (case hg => rfl); (case hr => first | (go_simp; done) | (go_simp; rfl)); intro gb207 hg w5 hbox hb; have n0_ := am (below_step pw hb); have n1_ := am (hbox); have n2_ := am ((by rw [hg]; exact (below_size pw) : w.heap.size ≤ gb207)); have n3_ := am ((by rw [hg]; exact (below_size pw) : w.heap.size ≤ gb207)); clear HB; have HB := n0_; have BK207 := n1_; have GW207 := n2_; have GE207 := n3_; clear n0_ n1_ n2_ n3_; clear hb hbox hg) | ((with_reducible refine gate_callee (f := 20) rfl ?_); refine goesL_ (some 11) rfl rfl Tryd.func20 kk rfl #[] rfl (by (try simp only [List.map_toArray, List.map_cons, List.map_nil]); first | done | rfl | (simp only [List.length_drop, List.length_take]; rfl)) ?_; (with_reducible refine (L2_free.calls k  t208 _ A3.out (am (ErrAt.below hE2.out pw)).out (am (ErrAt.below hE3.out pw)).out).mono ?_); rintro e w6 ⟨rfl, hb⟩; refine ⟨_, rfl, ?_⟩; have n0_ := bb BK207 hb; have n1_ := am (below_step pw hb); clear BK207; clear HB; have BK207 := n0_; have HB := n1_; clear n0_ n1_; (try clear hb); (try clear hb2); (try clear hk); (try clear hi)))
 (try simp only [Act.put, List.setIfInBounds_toArray, List.set_cons_zero, List.set_cons_succ])
 go_cut [24] (fun v24 wc => ∃ (kq : Nat) (x24_3 : Bool), v24 = .bool x24_3 ∧ Aside0 (L2_ZoneStays.j0 kq l1 t208 x24_3 a0_0 l0_1 = some r) ∧ Aside0 (kq ≤ k) ∧ Aside0 (wc.heap[gb207]? = some (.cells #[.int .i64 a0_0, (.slice A0_1 l0_1.length c0_1)] 33 (0, 0))) ∧ Aside0 (Below w.heap.size w wc))
 case first =>
  have H := HC4.out
  clear HC4
  by_cases c7 : t208 = true
  ·subst c7
   have H1 : (if (l0_1.length : Int) > 100 then (L2_ZoneStays.j0 k l1 true true a0_0 l0_1) else (L2_ZoneStays.j0 k l1 true (decide ((l1.length : Int) > 40)) a0_0 l0_1)) = some r := by rw [if_pos rfl] at H; exact H
   clear H
   have H := H1
   clear H1
   by_cases c8 : (l0_1.length : Int) > 100
   ·rw [if_pos c8] at H
    have c8b0 : decide (100 < (l0_1.length : Int)) = true := decide_eq_true c8
    have c8b1 : decide (100 < l0_1.length) = true := decide_eq_true (by omega)
    clear c8
    (first | rw [c8b0] | (simp only [i64_w, i32_w]; rw [c8b0]) | skip)
    as_aux_lemma =>
     have H' := am H
     clear H
     have hcz9_0 : w6.cell? ⟨gb207, 0, none⟩ = some (.int .i64 a0_0) := bc BK207 0
     have hcz9_1 : w6.cell? ⟨gb207, 1, none⟩ = some (.slice A0_1 l0_1.length c0_1) := bc BK207 1
     have hfz9_0 := blk_frozen BK207.out 0
     have hfz9_1 := blk_frozen BK207.out 1
     go_wp2
     go_meet
     case rel => exact ⟨_, (true), pr, H', ⟨by first | omega | exact Nat.le_refl _⟩, ⟨pk⟩, ⟨pw⟩⟩
   rw [if_neg c8] at H
   have c8b0 : decide (100 < (l0_1.length : Int)) = false := decide_eq_false c8
   have c8b1 : decide (100 < l0_1.length) = false := decide_eq_false (by omega)
   clear c8
   (first | rw [c8b0] | (simp only [i64_w, i32_w]; rw [c8b0]) | skip)
   as_aux_lemma =>
    have H' := am H
    clear H
    have hcz10_0 : w6.cell? ⟨gb207, 0, none⟩ = some (.int .i64 a0_0) := bc BK207 0
    have hcz10_1 : w6.cell? ⟨gb207, 1, none⟩ = some (.slice A0_1 l0_1.length c0_1) := bc BK207 1
    have hfz10_0 := blk_frozen BK207.out 0
    have hfz10_1 := blk_frozen BK207.out 1
    go_wp2
    go_meet
    case rel => exact ⟨_, (decide ((l1.length : Int) > 40)), pr, H', ⟨by first | omega | exact Nat.le_refl _⟩, ⟨pk⟩, ⟨pw⟩⟩
  replace c7 := Bool.eq_false_iff.mpr c7
  subst c7
  have H1 : (L2_ZoneStays.j0 k l1 false true a0_0 l0_1) = some r := by rw [if_neg (show ¬ (false = true) by decide)] at H; exact H
  clear H
  have H := H1
  clear H1
  as_aux_lemma =>
   have H' := am H
   clear H
   go_wp2
   go_meet
   case rel => exact ⟨_, (true), pr, H', ⟨by first | omega | exact Nat.le_refl _⟩, ⟨pk⟩, ⟨pw⟩⟩
 clear HC4
 try clear c1
 try clear c2
 try clear p2
 try clear c6
 try clear c7
 try clear c8
 try clear c8b0
 try clear c8b1
 try clear hcz10_0
 try clear hcz10_1
 try clear hcz9_0
 try clear hcz9_1
 try clear hfz10_0
 try clear hfz10_1
 try clear hfz9_0
 try clear hfz9_1
 obtain ⟨kq, x24_3, rfl, HA, HJ3, BK207, HB⟩ := hcut
 cases kq with
 | zero => exact absurd HA.out (by simp [L2_ZoneStays.j0])
 | succ kj3 =>
  have H := HA.out
  clear HA
  simp only [L2_ZoneStays.j0] at H
  by_cases c11 : x24_3 = true
  ·subst c11
   have H1 : (some t208) = some r := by rw [if_pos rfl] at H; exact H
   clear H
   have H := H1
   clear H1
   as_aux_lemma =>
    obtain rfl := Option.some.inj H
    go_wp2
    go_ret
    exact ⟨pe, pw⟩
  replace c11 := Bool.eq_false_iff.mpr c11
  subst c11
  have H1 : ((L2_zoneOf.f kj3 a0_0 l0_1).bind fun bt209 => (L2_ZoneStays.l0 kj3 l1 0 0 a0_0 l0_1 bt209.1 bt209.2)) = some r := by rw [if_neg (show ¬ (false = true) by decide)] at H; exact H
  clear H
  have H := H1
  clear H1
  replace H := Option.bind_eq_some_iff.mp H
  obtain ⟨⟨t209, t210⟩, A120, H⟩ := H
  replace H : (L2_ZoneStays.l0 kj3 l1 0 0 a0_0 l0_1 t209 t210) = some r := H
  have A12 := am A120
  clear A120
  have H' := am H
  clear H
  have hcz13_0 : wc.cell? ⟨gb207, 0, none⟩ = some (.int .i64 a0_0) := bc BK207 0
  have hcz13_1 : wc.cell? ⟨gb207, 1, none⟩ = some (.slice A0_1 l0_1.length c0_1) := bc BK207 1
  have hfz13_0 := blk_frozen BK207.out 0
  have hfz13_1 := blk_frozen BK207.out 1
  go_wp2_with (first | ((with_reducible refine gate_callee (f := 23) rfl ?_); refine goesL_ (some 27) rfl rfl Tryd.func23 kk rfl #[.agg #[.int .i64 a0_0, .slice A0_1 l0_1.length c0_1]] rfl (by (try simp only [List.map_toArray, List.map_cons, List.map_nil]); first | done | rfl | (simp only [List.length_drop, List.length_take]; rfl)) ?_; (with_reducible refine (L2_zoneOf.calls kj3 a0_0 _ _ l0_1 t209 t210 _ ?side1 ?side2 A12.out).mono ?_); (case side1 => repeat (first | exact (Kd.C_below HR0_1.out HB.out) | (with_reducible refine Kd.C_alloc ?_ _) | (with_reducible refine Kd.C_drewN ?_ _) | (with_reducible refine Kd.C_drew ?_))); (case side2 => exact HC0_1.out); rintro e w14 ⟨v211, rfl, ho0, hb⟩; refine ⟨_, rfl, ?_⟩; have n0_ := am (Kd.R_lower ho0 (below_size pw)); have n1_ := bb BK207 hb; have n2_ := am (below_step pw hb); clear BK207; clear HB; have HO212 := n0_; have BK207 := n1_; have HB := n2_; clear n0_ n1_ n2_; (try clear hb); (try clear hb2); (try clear hk); (try clear hi); (try clear ho0)) | ((with_reducible refine gate_dst (N := 6) rfl ?_); (try (refine gate_guard (by rfl) ?_; dsimp only)); refine box_event ?hg (N := 6) ?hd (cs := #[.int .i64 0, .slice none 0 0]) (t := 37) ?hr ?_; (case hd => rfl); (case hg => rfl); (case hr => first | (go_simp; done) | (go_simp; rfl)); intro gb213 hg w15 hbox hb; have n0_ := am (Kd.R_below (by (with_reducible repeat (first | apply Kd.R_alloc | apply Kd.R_drewN | apply Kd.R_drew)); exact HO212.out) hb); have n1_ := bb BK207 hb; have n2_ := am (below_step pw hb); have n3_ := am (hbox); have n4_ := am ((by rw [hg]; exact (below_size pw) : w.heap.size ≤ gb213)); have n5_ := am ((by rw [hg]; exact (below_size pw) : w.heap.size ≤ gb213)); have n6_ := am ((by rw [hg]; exact Nat.ne_of_lt (blk_lt pk) : gb207 ≠ gb213)); have n7_ := am ((by rw [hg]; exact Nat.ne_of_gt (blk_lt pk) : gb213 ≠ gb207)); clear HO212; clear BK207; clear HB; have HO212 := n0_; have BK207 := n1_; have HB := n2_; have BK213 := n3_; have GW213 := n4_; have GE213 := n5_; have NB207_213 := n6_; have NB213_207 := n7_; clear n0_ n1_ n2_ n3_ n4_ n5_ n6_ n7_; clear hb hbox hg; have hnb16 := NB213_207.out; have hnc16 := NB207_213.out; have hcz17_0 : w15.cell? ⟨gb213, 0, none⟩ = some (.int .i64 0) := bc BK213 0; have hcz17_1 : w15.cell? ⟨gb213, 1, none⟩ = some (.slice none 0 0) := bc BK213 1; have hfz17_0 := blk_frozen BK213.out 0; have hfz17_1 := blk_frozen BK213.out 1; obtain ⟨Ao18, co18, eo18⟩ := Kd.R_slice HO212.out; subst eo18))
  go_loopg [7, 8] kj3 (fun kq v7 v8 w' => ∃ (x7_2 : Int) (x8_2 : Int) (x214000_2 : Int) (x214001_2 : List (S42)) (u214001 : Value), v7 = .int .i64 x7_2 ∧ v8 = .int .i64 x8_2 ∧ Aside0 (L2_ZoneStays.l0 kq l1 x7_2 x8_2 a0_0 l0_1 x214000_2 x214001_2 = some r) ∧ Aside0 (kq ≤ kj3) ∧ Aside0 (Kd.R k42 42 w' w.heap.size (fun _ => True) u214001 x214001_2) ∧ Aside0 (w'.heap[gb207]? = some (.cells #[.int .i64 a0_0, (.slice A0_1 l0_1.length c0_1)] 33 (0, 0))) ∧ Aside0 (w'.heap[gb213]? = some (.cells #[.int .i64 x214000_2, u214001] 37 (0, 0))) ∧ Aside0 (Below w.heap.size w w'))
  case atStart => exact ⟨(0), (0), (t209), (t210), (.slice Ao18 t210.length co18), pr, pr, H', ⟨Nat.le_refl _⟩, ⟨by (with_reducible repeat (first | apply Kd.R_alloc | apply Kd.R_drewN | apply Kd.R_drew)); exact Kd.R_mono (Kd.R_far (p := ⟨gb213, 1, none⟩) (Kd.R_far (p := ⟨gb213, 0, none⟩) (Kd.R_types HO212.out BK213.out (by decide)) (fun _ hk => hk.2) (.int .i64 t209)) (fun _ hk => hk.2) (.slice Ao18 t210.length co18)) (fun _ hk => trivial)⟩, ⟨by (with_reducible repeat (first | refine blk_drewN ?_ _ | refine blk_drew ?_ | refine blk_alloc ?_ _)); refine blk_far ?_ NB207_213.out _; (with_reducible repeat (first | refine blk_drewN ?_ _ | refine blk_drew ?_ | refine blk_alloc ?_ _)); refine blk_far ?_ NB207_213.out _; (with_reducible repeat (first | refine blk_drewN ?_ _ | refine blk_drew ?_ | refine blk_alloc ?_ _)); exact BK207.out⟩, ⟨by (with_reducible repeat (first | refine blk_drewN ?_ _ | refine blk_drew ?_ | refine blk_alloc ?_ _)); refine blk_put (cs := #[.int .i64 t209, .slice none 0 0]) ?_ 1 _ rfl; (with_reducible repeat (first | refine blk_drewN ?_ _ | refine blk_drew ?_ | refine blk_alloc ?_ _)); refine blk_put (cs := #[.int .i64 0, .slice none 0 0]) ?_ 0 _ rfl; (with_reducible repeat (first | refine blk_drewN ?_ _ | refine blk_drew ?_ | refine blk_alloc ?_ _)); exact BK213.out⟩, ⟨pw⟩⟩
  case round =>
   clear H'
   try clear c1
   try clear c2
   try clear p2
   try clear c6
   try clear c7
   try clear c8
   try clear c8b0
   try clear c8b1
   try clear c11
   try clear c16
   try clear hcz10_0
   try clear hcz10_1
   try clear hcz13_0
   try clear hcz13_1
   try clear hcz17_0
   try clear hcz17_1
   try clear hcz9_0
   try clear hcz9_1
   try clear hfz10_0
   try clear hfz10_1
   try clear hfz13_0
   try clear hfz13_1
   try clear hfz17_0
   try clear hfz17_1
   try clear hfz9_0
   try clear hfz9_1
   try clear p2
   obtain ⟨x7_2, x8_2, x214000_2, x214001_2, u214001, rfl, rfl, HA, HK2, HO_214001, BK207, BK213, HB⟩ := hrel
   cases gk with
   | zero => exact absurd HA.out (by simp [L2_ZoneStays.l0])
   | succ k2 =>
    have H := HA.out
    clear HA
    simp only [L2_ZoneStays.l0] at H
    by_cases c19 : x8_2 < (l1.length : Int)
    ·rw [if_pos c19] at H
     have c19b0 : decide (x8_2 < (l1.length : Int)) = true := decide_eq_true c19
     clear c19
     by_cases c20 : 0 ≤ x8_2
     ·rw [if_pos c20] at H
      have c20b0 : decide (0 ≤ x8_2) = true := decide_eq_true c20
      clear c20
      by_cases c21 : (((rd_T33 l1 x8_2).f1).length : Int) > 100
      ·rw [if_pos c21] at H
       have c21b0 : decide (100 < (((rd_T33 l1 x8_2).f1).length : Int)) = true := decide_eq_true c21
       have c21b1 : decide (100 < ((rd_T33 l1 x8_2).f1).length) = true := decide_eq_true (by omega)
       clear c21
       as_aux_lemma =>
        obtain rfl := Option.some.inj H
        have p214 : 0 ≤ (x8_2 : Int) := of_decide_eq_true (by first | (with_reducible assumption) | assumption)
        have q214 : x8_2 < (l1.length : Int) := of_decide_eq_true (by first | (with_reducible assumption) | assumption)
        obtain ⟨ad214, A214_1, c214_1, e214, hx214_0, hx214_1, hl214_1, hi214_1⟩ := at_T33 HR1.out x8_2 p214 q214
        cases e214
        replace hx214_0 := (HB.out.cell (World.block_lt_of_cell? w _ hx214_0)).trans hx214_0
        replace hx214_1 := (HB.out.cell (World.block_lt_of_cell? w _ hx214_1)).trans hx214_1
        have HR214_1 := am hi214_1
        have HC214_1 := am hl214_1
        clear hi214_1 hl214_1
        replace p214 := eq_true p214
        replace q214 := eq_true q214
        go_wp2
        go_ret
        exact ⟨pe, pw⟩
      rw [if_neg c21] at H
      have c21b0 : decide (100 < (((rd_T33 l1 x8_2).f1).length : Int)) = false := decide_eq_false c21
      have c21b1 : decide (100 < ((rd_T33 l1 x8_2).f1).length) = false := decide_eq_false (by omega)
      clear c21
      replace H := Option.bind_eq_some_iff.mp H
      obtain ⟨⟨t216, t217⟩, A220, H⟩ := H
      replace H : ((zone_Widen.f x214000_2 x214001_2 t216 t217).bind fun bt220 => (if bt220.2.2.isNone = true then ((L2_zoneBack.f k2 x214000_2 x214001_2).bind fun bt227 => ((L2_isZone.f k2 bt220.1 bt220.2.1 bt227.1 bt227.2).bind fun t231 => (if t231 = true then (L2_ZoneStays.l0 k2 l1 x7_2 (wrap64 (x8_2 + 1)) a0_0 l0_1 bt220.1 bt220.2.1) else (L2_ZoneStays.l0 k2 l1 (wrap64 (x7_2 + 1)) (wrap64 (x8_2 + 1)) a0_0 l0_1 bt220.1 bt220.2.1)))) else (some true))) = some r := H
      have A22 := am A220
      clear A220
      replace H := Option.bind_eq_some_iff.mp H
      obtain ⟨⟨t220, t221, t224⟩, A230, H⟩ := H
      replace H : (if t224.isNone = true then ((L2_zoneBack.f k2 x214000_2 x214001_2).bind fun bt227 => ((L2_isZone.f k2 t220 t221 bt227.1 bt227.2).bind fun t231 => (if t231 = true then (L2_ZoneStays.l0 k2 l1 x7_2 (wrap64 (x8_2 + 1)) a0_0 l0_1 t220 t221) else (L2_ZoneStays.l0 k2 l1 (wrap64 (x7_2 + 1)) (wrap64 (x8_2 + 1)) a0_0 l0_1 t220 t221)))) else (some true)) = some r := H
      have A23 := am A230
      clear A230
      rcases t224 with _ | q226
      ·have H1 : ((L2_zoneBack.f k2 x214000_2 x214001_2).bind fun bt227 => ((L2_isZone.f k2 t220 t221 bt227.1 bt227.2).bind fun t231 => (if t231 = true then (L2_ZoneStays.l0 k2 l1 x7_2 (wrap64 (x8_2 + 1)) a0_0 l0_1 t220 t221) else (L2_ZoneStays.l0 k2 l1 (wrap64 (x7_2 + 1)) (wrap64 (x8_2 + 1)) a0_0 l0_1 t220 t221)))) = some r := by rw [if_pos (show (none : Option Int).isNone = true by rfl)] at H; exact H
       clear H
       have H := H1
       clear H1
       try simp only [errW_none, errW_some]
       replace H := Option.bind_eq_some_iff.mp H
       obtain ⟨⟨t227, t228⟩, A240, H⟩ := H
       replace H : ((L2_isZone.f k2 t220 t221 t227 t228).bind fun t231 => (if t231 = true then (L2_ZoneStays.l0 k2 l1 x7_2 (wrap64 (x8_2 + 1)) a0_0 l0_1 t220 t221) else (L2_ZoneStays.l0 k2 l1 (wrap64 (x7_2 + 1)) (wrap64 (x8_2 + 1)) a0_0 l0_1 t220 t221))) = some r := H
       have A24 := am A240
       clear A240
       replace H := Option.bind_eq_some_iff.mp H
       obtain ⟨t231, A250, H⟩ := H
       replace H : (if t231 = true then (L2_ZoneStays.l0 k2 l1 x7_2 (wrap64 (x8_2 + 1)) a0_0 l0_1 t220 t221) else (L2_ZoneStays.l0 k2 l1 (wrap64 (x7_2 + 1)) (wrap64 (x8_2 + 1)) a0_0 l0_1 t220 t221)) = some r := H
       have A25 := am A250
       clear A250
       by_cases c26 : t231 = true
       ·subst c26
        have H1 : (L2_ZoneStays.l0 k2 l1 x7_2 (wrap64 (x8_2 + 1)) a0_0 l0_1 t220 t221) = some r := by rw [if_pos rfl] at H; exact H
        clear H
        have H := H1
        clear H1
        as_aux_lemma =>
         have H' := am H
         clear H
         have p214 : 0 ≤ (x8_2 : Int) := of_decide_eq_true (by first | (with_reducible assumption) | assumption)
         have q214 : x8_2 < (l1.length : Int) := of_decide_eq_true (by first | (with_reducible assumption) | assumption)
         obtain ⟨ad214, A214_1, c214_1, e214, hx214_0, hx214_1, hl214_1, hi214_1⟩ := at_T33 HR1.out x8_2 p214 q214
         cases e214
         replace hx214_0 := (HB.out.cell (World.block_lt_of_cell? w _ hx214_0)).trans hx214_0
         replace hx214_1 := (HB.out.cell (World.block_lt_of_cell? w _ hx214_1)).trans hx214_1
         have HR214_1 := am hi214_1
         have HC214_1 := am hl214_1
         clear hi214_1 hl214_1
         replace p214 := eq_true p214
         replace q214 := eq_true q214
         obtain ⟨Ao27, co27, eo27⟩ := Kd.R_slice HO_214001.out
         subst eo27
         try go_wp2
         have n0_ := am (Kd.R_drew HO_214001.out)
         have n1_ := am (blk_drew BK207.out)
         have n2_ := am (blk_drew BK213.out)
         have n3_ := am (below_drew1 HB.out)
         clear HO_214001 BK207 BK213 HB
         revert n0_ n1_ n2_ n3_
         intro HO_214001 BK207 BK213 HB
         have p215 : 0 ≤ (x8_2 : Int) := of_decide_eq_true (by first | (with_reducible assumption) | assumption)
         have q215 : x8_2 < (l1.length : Int) := of_decide_eq_true (by first | (with_reducible assumption) | assumption)
         obtain ⟨ad215, A215_1, c215_1, e215, hx215_0, hx215_1, hl215_1, hi215_1⟩ := at_T33 HR1.out x8_2 p215 q215
         have hw215_1 := hx215_1
         have hw215_0 := hx215_0
         obtain rfl : ad214 = ad215 := (by injection e215)
         replace hx215_0 := (HB.out.cell (World.block_lt_of_cell? w _ hx215_0)).trans hx215_0
         replace hx215_1 := (HB.out.cell (World.block_lt_of_cell? w _ hx215_1)).trans hx215_1
         have HR215_1 := am hi215_1
         have HC215_1 := am hl215_1
         clear hi215_1 hl215_1
         replace p215 := eq_true p215
         replace q215 := eq_true q215
         refine start_ (n := 13) (S := fun w' => w'.cell? ⟨gb213, 0, none⟩ = some (.int .i64 x214000_2) ∧ w'.cell? ⟨gb213, 1, none⟩ = some (.slice Ao27 x214001_2.length co27) ∧ w'.cell? (ad214.add ((x8_2).toNat * 2)) = some (.int .i64 ((rd_T33 l1 x8_2).f0)) ∧ w'.cell? ⟨(ad214.add ((x8_2).toNat * 2)).block, (ad214.add ((x8_2).toNat * 2)).off + 1, none⟩ = some (.slice A215_1 ((rd_T33 l1 x8_2).f1).length c215_1)) (ds := []) #[false, false, false, false, false, false, false, false, false, false, false, false, false] kk rfl rfl ⟨bc BK213 0, bc BK213 1, ((HB.out.cell (World.block_lt_of_cell? w _ hw215_0)).trans hw215_0), ((HB.out.cell (World.block_lt_of_cell? w _ hw215_1)).trans hw215_1)⟩ (fun hHeld => ?_); refine with_tabW L2_ZoneStays.tab11 L2_ZoneStays.bits11 (fun HT_ HW_ => ?_)
         generalize wr.drew = w28 at HO_214001 BK207 BK213 HB HR215_1 hx215_0 hx215_1 hHeld ⊢
         refine pure_ (i := 1) (N := some 43) (v := ?_) (a' := ?_) #[false, true, false, false, false, false, false, false, false, false, false, false, false] rfl rfl (any_of HT_.out kk) (fun _ _ _ h => h) (Or.inl ⟨by rfl, ?_⟩) ?_ ?_
         rotate_left
         ·intro w'
          go_simp
          with_reducible rfl
         rotate_left
         ·simp only [Act.put, List.setIfInBounds_toArray, List.set_cons_zero, List.set_cons_succ, i64_w, i32_w]
          rfl
         refine pure_ (i := 2) (N := some 44) (v := ?_) (a' := ?_) #[false, true, true, false, false, false, false, false, false, false, false, false, false] rfl rfl (any_of HT_.out kk) (fun _ _ _ h => h) (Or.inl ⟨by rfl, ?_⟩) ?_ ?_
         rotate_left
         ·intro w'
          go_simp
          with_reducible rfl
         rotate_left
         ·simp only [Act.put, List.setIfInBounds_toArray, List.set_cons_zero, List.set_cons_succ, i64_w, i32_w]
          rfl
         refine pure_ (i := 3) (N := some 45) (v := ?_) (a' := ?_) #[false, true, true, true, false, false, false, false, false, false, false, false, false] rfl rfl (any_of HT_.out kk) (fun _ _ _ h => h) (Or.inl ⟨by rfl, ?_⟩) ?_ ?_
         rotate_left
         ·intro w'
          go_simp
          with_reducible rfl
         rotate_left
         ·simp only [Act.put, List.setIfInBounds_toArray, List.set_cons_zero, List.set_cons_succ, i64_w, i32_w]
          rfl
         refine take_ (i := 0) (N := some 42) (v := ?_) (a' := ?_) #[true, true, true, true, false, false, false, false, false, false, false, false, false] rfl rfl (take_ofW HT_.out HW_.out kk) (fun _ _ _ h => h) (Or.inl ⟨by rfl, ?_⟩) hHeld ?_ ?_
         rotate_left
         ·rintro w' ⟨s0, s1, s2, s3⟩
          go_simp
          with_reducible rfl
         rotate_left
         ·simp only [Act.put, List.setIfInBounds_toArray, List.set_cons_zero, List.set_cons_succ, i64_w, i32_w]
          rfl
         refine take_ (i := 4) (N := some 46) (v := ?_) (a' := ?_) #[true, true, true, true, true, false, false, false, false, false, false, false, false] rfl rfl (take_ofW HT_.out HW_.out kk) (fun _ _ _ h => h) (Or.inl ⟨by rfl, ?_⟩) hHeld ?_ ?_
         rotate_left
         ·rintro w' ⟨s0, s1, s2, s3⟩
          go_simp
          with_reducible rfl
         rotate_left
         ·simp only [Act.put, List.setIfInBounds_toArray, List.set_cons_zero, List.set_cons_succ, i64_w, i32_w]
          rfl
         refine join_ (σ := Value × Value × Nat) 2 #[true, true, true, true, true, true, true, true, true, true, true, false, false] (fun s_ => [(47, .agg #[.int .i64 t216, s_.1]), (48, .tuple #[.agg #[.int .i64 t220, s_.2.1], .nilIface]), (9, .pointer (some ⟨s_.2.2, 0, none⟩)), (41, .tuple #[.agg #[.int .i64 t220, s_.2.1], .nilIface]), (49, .agg #[.int .i64 t220, s_.2.1]), (50, .nilIface)]) (fun s_ w' => (w'.cell? ⟨gb213, 0, none⟩ = some (.int .i64 x214000_2) ∧ w'.cell? ⟨gb213, 1, none⟩ = some (.slice Ao27 x214001_2.length co27) ∧ w'.cell? (ad214.add ((x8_2).toNat * 2)) = some (.int .i64 ((rd_T33 l1 x8_2).f0)) ∧ w'.cell? ⟨(ad214.add ((x8_2).toNat * 2)).block, (ad214.add ((x8_2).toNat * 2)).off + 1, none⟩ = some (.slice A215_1 ((rd_T33 l1 x8_2).f1).length c215_1)) ∧ (Kd.R k42 42 w' w.heap.size (fun k_ => some k_ ≠ (s_.2.1 : Value).ownBlock ∧ some k_ ≠ (.slice Ao27 x214001_2.length co27 : Value).ownBlock) s_.1 t217) ∧ (Kd.R k42 42 w' w.heap.size (fun k_ => some k_ ≠ (s_.1 : Value).ownBlock ∧ some k_ ≠ (.slice Ao27 x214001_2.length co27 : Value).ownBlock) s_.2.1 t221) ∧ (Kd.R k42 42 w' w.heap.size (fun k_ => some k_ ≠ (s_.1 : Value).ownBlock ∧ some k_ ≠ (s_.2.1 : Value).ownBlock) (.slice Ao27 x214001_2.length co27) x214001_2) ∧ (w'.heap[gb207]? = some (.cells #[.int .i64 a0_0, .slice A0_1 l0_1.length c0_1] 33 (0, 0))) ∧ (w'.heap[gb213]? = some (.cells #[.int .i64 x214000_2, .slice Ao27 x214001_2.length co27] 37 (0, 0))) ∧ (w'.heap[s_.2.2]? = some (.cells #[.int .i64 0, .slice none 0 0] 37 (0, 0))) ∧ (w.heap.size ≤ s_.2.2) ∧ (w.heap.size ≤ s_.2.2) ∧ (gb207 ≠ s_.2.2) ∧ (s_.2.2 ≠ gb207) ∧ (gb213 ≠ s_.2.2) ∧ (s_.2.2 ≠ gb213) ∧ (Below w.heap.size w w')) ?_ ?_
         rotate_left
         ·intro hCont
          refine two_ (i := 5) (j := 10) (Ni := some 47) (Nj := some 9) #[true, true, true, true, true, true, false, false, false, false, false, false, false] #[true, true, true, true, true, false, false, false, false, false, true, false, false] rfl rfl rfl rfl (two_of HT_.out kk) (by decide) (by decide) (fun K hK => ?_) (fun K hK => ?_)
          ·skip
           refine goes_ Tryd.func23 kk rfl #[.agg #[.int .i64 ((rd_T33 l1 x8_2).f0), .slice A215_1 ((rd_T33 l1 x8_2).f1).length c215_1]] (by rfl) rfl rfl (by (try simp only [List.map_toArray, List.map_cons, List.map_nil]); first | done | rfl | (simp only [List.length_drop, List.length_take]; rfl)) ?_
           with_reducible refine (L2_zoneOf.calls k2 ((rd_T33 l1 x8_2).f0) _ _ ((rd_T33 l1 x8_2).f1) t216 t217 _ ?side1 ?side2 A22.out).mono ?_
           (case side1 => repeat (first | exact (Kd.C_below HR215_1.out HB.out) | (with_reducible refine Kd.C_alloc ?_ _) | (with_reducible refine Kd.C_drewN ?_ _) | (with_reducible refine Kd.C_drew ?_)))
           (case side2 => exact HC215_1.out)
           rintro e w29 ⟨v218, rfl, ho0, hb⟩
           refine ⟨_, rfl, ?_⟩
           have n0_ := am (Kd.R_elder' (by (with_reducible repeat (first | apply Kd.R_alloc | apply Kd.R_drewN | apply Kd.R_drew)); exact HO_214001.out) (Kd.R_base ho0) hb)
           have n1_ := am (Kd.R_lower (Kd.R_new' ho0 (Kd.R_lt (by (with_reducible repeat (first | apply Kd.R_alloc | apply Kd.R_drewN | apply Kd.R_drew)); exact HO_214001.out))) (below_size pw))
           have n2_ := bb BK207 hb
           have n3_ := bb BK213 hb
           have n4_ := am (below_step pw hb)
           clear HO_214001 BK207 BK213 HB
           revert n0_ n1_ n2_ n3_ n4_
           intro HO_214001 HO219 BK207 BK213 HB
           (try clear hb)
           (try clear hb2)
           (try clear hk)
           (try clear hi)
           (try clear ho0)
           obtain ⟨Ao30, co30, eo30⟩ := Kd.R_slice HO219.out
           (first | subst eo30 | (injection eo30 with f1_ f2_ f3_; have f4_ := f1_.symm; have f5_ := f3_.symm; clear f1_ f2_ f3_; subst f4_; subst f5_))
           refine hK.out _ _ ⟨bc BK213 0, bc BK213 1, ((HB.out.cell (World.block_lt_of_cell? w _ hw215_0)).trans hw215_0), ((HB.out.cell (World.block_lt_of_cell? w _ hw215_1)).trans hw215_1)⟩ (fun hHeld => ?_)
           clear hK K
           refine norm_ (a' := ?_) ?_ ?_
           rotate_left
           ·show Act.put _ (some 47) _ = _
            simp only [Act.put, List.setIfInBounds_toArray, List.set_cons_zero, List.set_cons_succ, i64_w, i32_w]
            rfl
           refine two_ (i := 6) (j := 10) (Ni := some 48) (Nj := some 9) #[true, true, true, true, true, true, true, false, false, false, false, false, false] #[true, true, true, true, true, true, false, false, false, false, true, false, false] rfl rfl rfl rfl (two_of HT_.out kk) (by decide) (by decide) (fun K hK => ?_) (fun K hK => ?_)
           ·skip
            refine goes_ Tryd.func30 kk rfl #[.agg #[.int .i64 x214000_2, .slice Ao27 x214001_2.length co27], .agg #[.int .i64 t216, .slice Ao30 t217.length co30]] (by rfl) rfl rfl (by (try simp only [List.map_toArray, List.map_cons, List.map_nil]); first | done | rfl | (simp only [List.length_drop, List.length_take]; rfl)) ?_
            with_reducible refine (zone_Widen.calls x214000_2 _ _ x214001_2 t216 _ _ t217 t220 t221 none _ ?side1 ?side2 ?side3 ?side4 A23.out (am (ErrAt.below hE2.out pw)).out (am (ErrAt.below hE3.out pw)).out).mono ?_
            (case side1 => repeat (first | exact (Kd.R_reads' HO_214001.out).2.2 | (with_reducible refine Kd.C_alloc ?_ _) | (with_reducible refine Kd.C_drewN ?_ _) | (with_reducible refine Kd.C_drew ?_)))
            (case side2 => exact (Kd.R_reads' HO_214001.out).2.1)
            (case side3 => repeat (first | exact (Kd.R_reads' HO219.out).2.2 | (with_reducible refine Kd.C_alloc ?_ _) | (with_reducible refine Kd.C_drewN ?_ _) | (with_reducible refine Kd.C_drew ?_)))
            (case side4 => exact (Kd.R_reads' HO219.out).2.1)
            rintro e w31 ⟨v222, rfl, ho0, hb⟩
            refine ⟨_, rfl, ?_⟩
            have n0_ := am (Kd.R_elder' (by (with_reducible repeat (first | apply Kd.R_alloc | apply Kd.R_drewN | apply Kd.R_drew)); exact HO_214001.out) (Kd.R_base ho0) hb)
            have n1_ := am (Kd.R_elder' (by (with_reducible repeat (first | apply Kd.R_alloc | apply Kd.R_drewN | apply Kd.R_drew)); exact HO219.out) (Kd.R_base ho0) hb)
            have n2_ := am (Kd.R_lower (Kd.R_new' (Kd.R_new' ho0 (Kd.R_lt (by (with_reducible repeat (first | apply Kd.R_alloc | apply Kd.R_drewN | apply Kd.R_drew)); exact HO_214001.out))) (Kd.R_lt (by (with_reducible repeat (first | apply Kd.R_alloc | apply Kd.R_drewN | apply Kd.R_drew)); exact HO219.out))) (below_size pw))
            have n3_ := bb BK207 hb
            have n4_ := bb BK213 hb
            have n5_ := am (below_step pw hb)
            clear HO_214001 HO219 BK207 BK213 HB
            revert n0_ n1_ n2_ n3_ n4_ n5_
            intro HO_214001 HO219 HO223 BK207 BK213 HB
            (try clear hb)
            (try clear hb2)
            (try clear hk)
            (try clear hi)
            (try clear ho0)
            (try simp only [errW_none, errW_some])
            refine hK.out _ _ ⟨bc BK213 0, bc BK213 1, ((HB.out.cell (World.block_lt_of_cell? w _ hw215_0)).trans hw215_0), ((HB.out.cell (World.block_lt_of_cell? w _ hw215_1)).trans hw215_1)⟩ (fun hHeld => ?_)
            clear hK K
            refine norm_ (a' := ?_) ?_ ?_
            rotate_left
            ·show Act.put _ (some 48) _ = _
             simp only [Act.put, List.setIfInBounds_toArray, List.set_cons_zero, List.set_cons_succ, i64_w, i32_w]
             rfl
            refine pure_ (i := 7) (N := some 41) (v := ?_) (a' := ?_) #[true, true, true, true, true, true, true, true, false, false, false, false, false] rfl rfl (any_of HT_.out kk) (fun _ _ _ h => h) (Or.inl ⟨by rfl, ?_⟩) ?_ ?_
            rotate_left
            ·intro w'
             go_simp
             with_reducible rfl
            rotate_left
            ·simp only [Act.put, List.setIfInBounds_toArray, List.set_cons_zero, List.set_cons_succ, i64_w, i32_w]
             rfl
            refine pure_ (i := 8) (N := some 49) (v := ?_) (a' := ?_) #[true, true, true, true, true, true, true, true, true, false, false, false, false] rfl rfl (any_of HT_.out kk) (fun _ _ _ h => h) (Or.inl ⟨by rfl, ?_⟩) ?_ ?_
            rotate_left
            ·intro w'
             go_simp
             with_reducible rfl
            rotate_left
            ·simp only [Act.put, List.setIfInBounds_toArray, List.set_cons_zero, List.set_cons_succ, i64_w, i32_w]
             rfl
            refine pure_ (i := 9) (N := some 50) (v := ?_) (a' := ?_) #[true, true, true, true, true, true, true, true, true, true, false, false, false] rfl rfl (any_of HT_.out kk) (fun _ _ _ h => h) (Or.inl ⟨by rfl, ?_⟩) ?_ ?_
            rotate_left
            ·intro w'
             go_simp
             with_reducible rfl
            rotate_left
            ·simp only [Act.put, List.setIfInBounds_toArray, List.set_cons_zero, List.set_cons_succ, i64_w, i32_w]
             rfl
            refine one_ (i := 10) (N := some 9) #[true, true, true, true, true, true, true, true, true, true, true, false, false] rfl rfl (one_of HT_.out kk) (by decide) (fun K hK => ?_)
            refine box_step ?hg (N := 9) ?hd (cs := #[.int .i64 0, .slice none 0 0]) (t := 37) ?hr ?_; (case hd => rfl); (case hg => rfl); (case hr => first | (go_simp; done) | (go_simp; rfl))
            intro gb225 hg w32 hbox hb
            have n0_ := am (Kd.R_below (by (with_reducible repeat (first | apply Kd.R_alloc | apply Kd.R_drewN | apply Kd.R_drew)); exact HO_214001.out) hb)
            have n1_ := am (Kd.R_below (by (with_reducible repeat (first | apply Kd.R_alloc | apply Kd.R_drewN | apply Kd.R_drew)); exact HO219.out) hb)
            have n2_ := am (Kd.R_below (by (with_reducible repeat (first | apply Kd.R_alloc | apply Kd.R_drewN | apply Kd.R_drew)); exact HO223.out) hb)
            have n3_ := bb BK207 hb
            have n4_ := bb BK213 hb
            have n5_ := am (below_step pw hb)
            have n6_ := am (hbox)
            have n7_ := am ((by rw [hg]; exact (below_size pw) : w.heap.size ≤ gb225))
            have n8_ := am ((by rw [hg]; exact (below_size pw) : w.heap.size ≤ gb225))
            have n9_ := am ((by rw [hg]; exact Nat.ne_of_lt (blk_lt pk) : gb207 ≠ gb225))
            have n10_ := am ((by rw [hg]; exact Nat.ne_of_gt (blk_lt pk) : gb225 ≠ gb207))
            have n11_ := am ((by rw [hg]; exact Nat.ne_of_lt (blk_lt pk) : gb213 ≠ gb225))
            have n12_ := am ((by rw [hg]; exact Nat.ne_of_gt (blk_lt pk) : gb225 ≠ gb213))
            clear HO_214001 HO219 HO223 BK207 BK213 HB
            revert n0_ n1_ n2_ n3_ n4_ n5_ n6_ n7_ n8_ n9_ n10_ n11_ n12_
            intro HO_214001 HO219 HO223 BK207 BK213 HB BK225 GW225 GE225 NB207_225 NB225_207 NB213_225 NB225_213
            clear hb hbox hg
            refine hK.out _ _ ⟨bc BK213 0, bc BK213 1, ((HB.out.cell (World.block_lt_of_cell? w _ hw215_0)).trans hw215_0), ((HB.out.cell (World.block_lt_of_cell? w _ hw215_1)).trans hw215_1)⟩ (fun hHeld => ?_)
            clear hK K
            refine norm_ (a' := ?_) ?_ ?_
            rotate_left
            ·show Act.put _ (some 9) _ = _
             simp only [Act.put, List.setIfInBounds_toArray, List.set_cons_zero, List.set_cons_succ, i64_w, i32_w]
             rfl
            exact norm_ (by simp only [putAll, Act.put, List.setIfInBounds_toArray, List.set_cons_zero, List.set_cons_succ, errW_none, errW_some]) (hCont (.slice Ao30 t217.length co30, v222, gb225) _ ⟨hHeld, (by (with_reducible repeat (first | apply Kd.R_alloc | apply Kd.R_drewN | apply Kd.R_drew)); exact Kd.R_mono HO219.out (fun _ hk => ⟨hk.2, hk.1.2⟩)), (by (with_reducible repeat (first | apply Kd.R_alloc | apply Kd.R_drewN | apply Kd.R_drew)); exact Kd.R_mono HO223.out (fun _ hk => ⟨hk.2, hk.1.2⟩)), (by (with_reducible repeat (first | apply Kd.R_alloc | apply Kd.R_drewN | apply Kd.R_drew)); exact Kd.R_mono HO_214001.out (fun _ hk => ⟨hk.1.2, hk.2⟩)), pk, pk, pk, GW225.out, GE225.out, NB207_225.out, NB225_207.out, NB213_225.out, NB225_213.out, pw⟩)
           skip
           refine box_step ?hg (N := 9) ?hd (cs := #[.int .i64 0, .slice none 0 0]) (t := 37) ?hr ?_; (case hd => rfl); (case hg => rfl); (case hr => first | (go_simp; done) | (go_simp; rfl))
           intro gb225 hg w30 hbox hb
           have n0_ := am (Kd.R_below (by (with_reducible repeat (first | apply Kd.R_alloc | apply Kd.R_drewN | apply Kd.R_drew)); exact HO_214001.out) hb)
           have n1_ := am (Kd.R_below (by (with_reducible repeat (first | apply Kd.R_alloc | apply Kd.R_drewN | apply Kd.R_drew)); exact HO219.out) hb)
           have n2_ := bb BK207 hb
           have n3_ := bb BK213 hb
           have n4_ := am (below_step pw hb)
           have n5_ := am (hbox)
           have n6_ := am ((by rw [hg]; exact (below_size pw) : w.heap.size ≤ gb225))
           have n7_ := am ((by rw [hg]; exact (below_size pw) : w.heap.size ≤ gb225))
           have n8_ := am ((by rw [hg]; exact Nat.ne_of_lt (blk_lt pk) : gb207 ≠ gb225))
           have n9_ := am ((by rw [hg]; exact Nat.ne_of_gt (blk_lt pk) : gb225 ≠ gb207))
           have n10_ := am ((by rw [hg]; exact Nat.ne_of_lt (blk_lt pk) : gb213 ≠ gb225))
           have n11_ := am ((by rw [hg]; exact Nat.ne_of_gt (blk_lt pk) : gb225 ≠ gb213))
           clear HO_214001 HO219 BK207 BK213 HB
           revert n0_ n1_ n2_ n3_ n4_ n5_ n6_ n7_ n8_ n9_ n10_ n11_
           intro HO_214001 HO219 BK207 BK213 HB BK225 GW225 GE225 NB207_225 NB225_207 NB213_225 NB225_213
           clear hb hbox hg
           obtain ⟨Ao31, co31, eo31⟩ := Kd.R_slice HO219.out
           (first | subst eo31 | (injection eo31 with f1_ f2_ f3_; have f4_ := f1_.symm; have f5_ := f3_.symm; clear f1_ f2_ f3_; subst f4_; subst f5_))
           refine hK.out _ _ ⟨bc BK213 0, bc BK213 1, ((HB.out.cell (World.block_lt_of_cell? w _ hw215_0)).trans hw215_0), ((HB.out.cell (World.block_lt_of_cell? w _ hw215_1)).trans hw215_1)⟩ (fun hHeld => ?_)
           clear hK K
           refine norm_ (a' := ?_) ?_ ?_
           rotate_left
           ·show Act.put _ (some 9) _ = _
            simp only [Act.put, List.setIfInBounds_toArray, List.set_cons_zero, List.set_cons_succ, i64_w, i32_w]
            rfl
           refine one_ (i := 6) (N := some 48) #[true, true, true, true, true, true, true, false, false, false, true, false, false] rfl rfl (one_of HT_.out kk) (by decide) (fun K hK => ?_)
           refine goes_ Tryd.func30 kk rfl #[.agg #[.int .i64 x214000_2, .slice Ao27 x214001_2.length co27], .agg #[.int .i64 t216, .slice Ao31 t217.length co31]] (by rfl) rfl rfl (by (try simp only [List.map_toArray, List.map_cons, List.map_nil]); first | done | rfl | (simp only [List.length_drop, List.length_take]; rfl)) ?_
           with_reducible refine (zone_Widen.calls x214000_2 _ _ x214001_2 t216 _ _ t217 t220 t221 none _ ?side1 ?side2 ?side3 ?side4 A23.out (am (ErrAt.below hE2.out pw)).out (am (ErrAt.below hE3.out pw)).out).mono ?_
           (case side1 => repeat (first | exact (Kd.R_reads' HO_214001.out).2.2 | (with_reducible refine Kd.C_alloc ?_ _) | (with_reducible refine Kd.C_drewN ?_ _) | (with_reducible refine Kd.C_drew ?_)))
           (case side2 => exact (Kd.R_reads' HO_214001.out).2.1)
           (case side3 => repeat (first | exact (Kd.R_reads' HO219.out).2.2 | (with_reducible refine Kd.C_alloc ?_ _) | (with_reducible refine Kd.C_drewN ?_ _) | (with_reducible refine Kd.C_drew ?_)))
           (case side4 => exact (Kd.R_reads' HO219.out).2.1)
           rintro e w32 ⟨v222, rfl, ho0, hb⟩
           refine ⟨_, rfl, ?_⟩
           have n0_ := am (Kd.R_elder' (by (with_reducible repeat (first | apply Kd.R_alloc | apply Kd.R_drewN | apply Kd.R_drew)); exact HO_214001.out) (Kd.R_base ho0) hb)
           have n1_ := am (Kd.R_elder' (by (with_reducible repeat (first | apply Kd.R_alloc | apply Kd.R_drewN | apply Kd.R_drew)); exact HO219.out) (Kd.R_base ho0) hb)
           have n2_ := am (Kd.R_lower (Kd.R_new' (Kd.R_new' ho0 (Kd.R_lt (by (with_reducible repeat (first | apply Kd.R_alloc | apply Kd.R_drewN | apply Kd.R_drew)); exact HO_214001.out))) (Kd.R_lt (by (with_reducible repeat (first | apply Kd.R_alloc | apply Kd.R_drewN | apply Kd.R_drew)); exact HO219.out))) (below_size pw))
           have n3_ := bb BK207 hb
           have n4_ := bb BK213 hb
           have n5_ := bb BK225 hb
           have n6_ := am (below_step pw hb)
           clear HO_214001 HO219 BK207 BK213 BK225 HB
           revert n0_ n1_ n2_ n3_ n4_ n5_ n6_
           intro HO_214001 HO219 HO223 BK207 BK213 BK225 HB
           (try clear hb)
           (try clear hb2)
           (try clear hk)
           (try clear hi)
           (try clear ho0)
           (try simp only [errW_none, errW_some])
           refine hK.out _ _ ⟨bc BK213 0, bc BK213 1, ((HB.out.cell (World.block_lt_of_cell? w _ hw215_0)).trans hw215_0), ((HB.out.cell (World.block_lt_of_cell? w _ hw215_1)).trans hw215_1)⟩ (fun hHeld => ?_)
           clear hK K
           refine norm_ (a' := ?_) ?_ ?_
           rotate_left
           ·show Act.put _ (some 48) _ = _
            simp only [Act.put, List.setIfInBounds_toArray, List.set_cons_zero, List.set_cons_succ, i64_w, i32_w]
            rfl
           refine pure_ (i := 7) (N := some 41) (v := ?_) (a' := ?_) #[true, true, true, true, true, true, true, true, false, false, true, false, false] rfl rfl (any_of HT_.out kk) (fun _ _ _ h => h) (Or.inl ⟨by rfl, ?_⟩) ?_ ?_
           rotate_left
           ·intro w'
            go_simp
            with_reducible rfl
           rotate_left
           ·simp only [Act.put, List.setIfInBounds_toArray, List.set_cons_zero, List.set_cons_succ, i64_w, i32_w]
            rfl
           refine pure_ (i := 8) (N := some 49) (v := ?_) (a' := ?_) #[true, true, true, true, true, true, true, true, true, false, true, false, false] rfl rfl (any_of HT_.out kk) (fun _ _ _ h => h) (Or.inl ⟨by rfl, ?_⟩) ?_ ?_
           rotate_left
           ·intro w'
            go_simp
            with_reducible rfl
           rotate_left
           ·simp only [Act.put, List.setIfInBounds_toArray, List.set_cons_zero, List.set_cons_succ, i64_w, i32_w]
            rfl
           refine pure_ (i := 9) (N := some 50) (v := ?_) (a' := ?_) #[true, true, true, true, true, true, true, true, true, true, true, false, false] rfl rfl (any_of HT_.out kk) (fun _ _ _ h => h) (Or.inl ⟨by rfl, ?_⟩) ?_ ?_
           rotate_left
           ·intro w'
            go_simp
            with_reducible rfl
           rotate_left
           ·simp only [Act.put, List.setIfInBounds_toArray, List.set_cons_zero, List.set_cons_succ, i64_w, i32_w]
            rfl
           exact norm_ (by simp only [putAll, Act.put, List.setIfInBounds_toArray, List.set_cons_zero, List.set_cons_succ, errW_none, errW_some]) (hCont (.slice Ao31 t217.length co31, v222, gb225) _ ⟨hHeld, (by (with_reducible repeat (first | apply Kd.R_alloc | apply Kd.R_drewN | apply Kd.R_drew)); exact Kd.R_mono HO219.out (fun _ hk => ⟨hk.2, hk.1.2⟩)), (by (with_reducible repeat (first | apply Kd.R_alloc | apply Kd.R_drewN | apply Kd.R_drew)); exact Kd.R_mono HO223.out (fun _ hk => ⟨hk.2, hk.1.2⟩)), (by (with_reducible repeat (first | apply Kd.R_alloc | apply Kd.R_drewN | apply Kd.R_drew)); exact Kd.R_mono HO_214001.out (fun _ hk => ⟨hk.1.2, hk.2⟩)), pk, pk, pk, GW225.out, GE225.out, NB207_225.out, NB225_207.out, NB213_225.out, NB225_213.out, pw⟩)
          skip
          refine box_step ?hg (N := 9) ?hd (cs := #[.int .i64 0, .slice none 0 0]) (t := 37) ?hr ?_; (case hd => rfl); (case hg => rfl); (case hr => first | (go_simp; done) | (go_simp; rfl))
          intro gb225 hg w29 hbox hb
          have n0_ := am (Kd.R_below (by (with_reducible repeat (first | apply Kd.R_alloc | apply Kd.R_drewN | apply Kd.R_drew)); exact HO_214001.out) hb)
          have n1_ := bb BK207 hb
          have n2_ := bb BK213 hb
          have n3_ := am (below_step pw hb)
          have n4_ := am (hbox)
          have n5_ := am ((by rw [hg]; exact (below_size pw) : w.heap.size ≤ gb225))
          have n6_ := am ((by rw [hg]; exact (below_size pw) : w.heap.size ≤ gb225))
          have n7_ := am ((by rw [hg]; exact Nat.ne_of_lt (blk_lt pk) : gb207 ≠ gb225))
          have n8_ := am ((by rw [hg]; exact Nat.ne_of_gt (blk_lt pk) : gb225 ≠ gb207))
          have n9_ := am ((by rw [hg]; exact Nat.ne_of_lt (blk_lt pk) : gb213 ≠ gb225))
          have n10_ := am ((by rw [hg]; exact Nat.ne_of_gt (blk_lt pk) : gb225 ≠ gb213))
          clear HO_214001 BK207 BK213 HB
          revert n0_ n1_ n2_ n3_ n4_ n5_ n6_ n7_ n8_ n9_ n10_
          intro HO_214001 BK207 BK213 HB BK225 GW225 GE225 NB207_225 NB225_207 NB213_225 NB225_213
          clear hb hbox hg
          refine hK.out _ _ ⟨bc BK213 0, bc BK213 1, ((HB.out.cell (World.block_lt_of_cell? w _ hw215_0)).trans hw215_0), ((HB.out.cell (World.block_lt_of_cell? w _ hw215_1)).trans hw215_1)⟩ (fun hHeld => ?_)
          clear hK K
          refine norm_ (a' := ?_) ?_ ?_
          rotate_left
          ·show Act.put _ (some 9) _ = _
           simp only [Act.put, List.setIfInBounds_toArray, List.set_cons_zero, List.set_cons_succ, i64_w, i32_w]
           rfl
          refine one_ (i := 5) (N := some 47) #[true, true, true, true, true, true, false, false, false, false, true, false, false] rfl rfl (one_of HT_.out kk) (by decide) (fun K hK => ?_)
          refine goes_ Tryd.func23 kk rfl #[.agg #[.int .i64 ((rd_T33 l1 x8_2).f0), .slice A215_1 ((rd_T33 l1 x8_2).f1).length c215_1]] (by rfl) rfl rfl (by (try simp only [List.map_toArray, List.map_cons, List.map_nil]); first | done | rfl | (simp only [List.length_drop, List.length_take]; rfl)) ?_
          with_reducible refine (L2_zoneOf.calls k2 ((rd_T33 l1 x8_2).f0) _ _ ((rd_T33 l1 x8_2).f1) t216 t217 _ ?side1 ?side2 A22.out).mono ?_
          (case side1 => repeat (first | exact (Kd.C_below HR215_1.out HB.out) | (with_reducible refine Kd.C_alloc ?_ _) | (with_reducible refine Kd.C_drewN ?_ _) | (with_reducible refine Kd.C_drew ?_)))
          (case side2 => exact HC215_1.out)
          rintro e w30 ⟨v218, rfl, ho0, hb⟩
          refine ⟨_, rfl, ?_⟩
          have n0_ := am (Kd.R_elder' (by (with_reducible repeat (first | apply Kd.R_alloc | apply Kd.R_drewN | apply Kd.R_drew)); exact HO_214001.out) (Kd.R_base ho0) hb)
          have n1_ := am (Kd.R_lower (Kd.R_new' ho0 (Kd.R_lt (by (with_reducible repeat (first | apply Kd.R_alloc | apply Kd.R_drewN | apply Kd.R_drew)); exact HO_214001.out))) (below_size pw))
          have n2_ := bb BK207 hb
          have n3_ := bb BK213 hb
          have n4_ := bb BK225 hb
          have n5_ := am (below_step pw hb)
          clear HO_214001 BK207 BK213 BK225 HB
          revert n0_ n1_ n2_ n3_ n4_ n5_
          intro HO_214001 HO219 BK207 BK213 BK225 HB
          (try clear hb)
          (try clear hb2)
          (try clear hk)
          (try clear hi)
          (try clear ho0)
          obtain ⟨Ao31, co31, eo31⟩ := Kd.R_slice HO219.out
          (first | subst eo31 | (injection eo31 with f1_ f2_ f3_; have f4_ := f1_.symm; have f5_ := f3_.symm; clear f1_ f2_ f3_; subst f4_; subst f5_))
          refine hK.out _ _ ⟨bc BK213 0, bc BK213 1, ((HB.out.cell (World.block_lt_of_cell? w _ hw215_0)).trans hw215_0), ((HB.out.cell (World.block_lt_of_cell? w _ hw215_1)).trans hw215_1)⟩ (fun hHeld => ?_)
          clear hK K
          refine norm_ (a' := ?_) ?_ ?_
          rotate_left
          ·show Act.put _ (some 47) _ = _
           simp only [Act.put, List.setIfInBounds_toArray, List.set_cons_zero, List.set_cons_succ, i64_w, i32_w]
           rfl
          refine one_ (i := 6) (N := some 48) #[true, true, true, true, true, true, true, false, false, false, true, false, false] rfl rfl (one_of HT_.out kk) (by decide) (fun K hK => ?_)
          refine goes_ Tryd.func30 kk rfl #[.agg #[.int .i64 x214000_2, .slice Ao27 x214001_2.length co27], .agg #[.int .i64 t216, .slice Ao31 t217.length co31]] (by rfl) rfl rfl (by (try simp only [List.map_toArray, List.map_cons, List.map_nil]); first | done | rfl | (simp only [List.length_drop, List.length_take]; rfl)) ?_
          with_reducible refine (zone_Widen.calls x214000_2 _ _ x214001_2 t216 _ _ t217 t220 t221 none _ ?side1 ?side2 ?side3 ?side4 A23.out (am (ErrAt.below hE2.out pw)).out (am (ErrAt.below hE3.out pw)).out).mono ?_
          (case side1 => repeat (first | exact (Kd.R_reads' HO_214001.out).2.2 | (with_reducible refine Kd.C_alloc ?_ _) | (with_reducible refine Kd.C_drewN ?_ _) | (with_reducible refine Kd.C_drew ?_)))
          (case side2 => exact (Kd.R_reads' HO_214001.out).2.1)
          (case side3 => repeat (first | exact (Kd.R_reads' HO219.out).2.2 | (with_reducible refine Kd.C_alloc ?_ _) | (with_reducible refine Kd.C_drewN ?_ _) | (with_reducible refine Kd.C_drew ?_)))
          (case side4 => exact (Kd.R_reads' HO219.out).2.1)
          rintro e w32 ⟨v222, rfl, ho0, hb⟩
          refine ⟨_, rfl, ?_⟩
          have n0_ := am (Kd.R_elder' (by (with_reducible repeat (first | apply Kd.R_alloc | apply Kd.R_drewN | apply Kd.R_drew)); exact HO_214001.out) (Kd.R_base ho0) hb)
          have n1_ := am (Kd.R_elder' (by (with_reducible repeat (first | apply Kd.R_alloc | apply Kd.R_drewN | apply Kd.R_drew)); exact HO219.out) (Kd.R_base ho0) hb)
          have n2_ := am (Kd.R_lower (Kd.R_new' (Kd.R_new' ho0 (Kd.R_lt (by (with_reducible repeat (first | apply Kd.R_alloc | apply Kd.R_drewN | apply Kd.R_drew)); exact HO_214001.out))) (Kd.R_lt (by (with_reducible repeat (first | apply Kd.R_alloc | apply Kd.R_drewN | apply Kd.R_drew)); exact HO219.out))) (below_size pw))
          have n3_ := bb BK207 hb
          have n4_ := bb BK213 hb
          have n5_ := bb BK225 hb
          have n6_ := am (below_step pw hb)
          clear HO_214001 HO219 BK207 BK213 BK225 HB
          revert n0_ n1_ n2_ n3_ n4_ n5_ n6_
          intro HO_214001 HO219 HO223 BK207 BK213 BK225 HB
          (try clear hb)
          (try clear hb2)
          (try clear hk)
          (try clear hi)
          (try clear ho0)
          (try simp only [errW_none, errW_some])
          refine hK.out _ _ ⟨bc BK213 0, bc BK213 1, ((HB.out.cell (World.block_lt_of_cell? w _ hw215_0)).trans hw215_0), ((HB.out.cell (World.block_lt_of_cell? w _ hw215_1)).trans hw215_1)⟩ (fun hHeld => ?_)
          clear hK K
          refine norm_ (a' := ?_) ?_ ?_
          rotate_left
          ·show Act.put _ (some 48) _ = _
           simp only [Act.put, List.setIfInBounds_toArray, List.set_cons_zero, List.set_cons_succ, i64_w, i32_w]
           rfl
          refine pure_ (i := 7) (N := some 41) (v := ?_) (a' := ?_) #[true, true, true, true, true, true, true, true, false, false, true, false, false] rfl rfl (any_of HT_.out kk) (fun _ _ _ h => h) (Or.inl ⟨by rfl, ?_⟩) ?_ ?_
          rotate_left
          ·intro w'
           go_simp
           with_reducible rfl
          rotate_left
          ·simp only [Act.put, List.setIfInBounds_toArray, List.set_cons_zero, List.set_cons_succ, i64_w, i32_w]
           rfl
          refine pure_ (i := 8) (N := some 49) (v := ?_) (a' := ?_) #[true, true, true, true, true, true, true, true, true, false, true, false, false] rfl rfl (any_of HT_.out kk) (fun _ _ _ h => h) (Or.inl ⟨by rfl, ?_⟩) ?_ ?_
          rotate_left
          ·intro w'
           go_simp
           with_reducible rfl
          rotate_left
          ·simp only [Act.put, List.setIfInBounds_toArray, List.set_cons_zero, List.set_cons_succ, i64_w, i32_w]
           rfl
          refine pure_ (i := 9) (N := some 50) (v := ?_) (a' := ?_) #[true, true, true, true, true, true, true, true, true, true, true, false, false] rfl rfl (any_of HT_.out kk) (fun _ _ _ h => h) (Or.inl ⟨by rfl, ?_⟩) ?_ ?_
          rotate_left
          ·intro w'
           go_simp
           with_reducible rfl
          rotate_left
          ·simp only [Act.put, List.setIfInBounds_toArray, List.set_cons_zero, List.set_cons_succ, i64_w, i32_w]
           rfl
          exact norm_ (by simp only [putAll, Act.put, List.setIfInBounds_toArray, List.set_cons_zero, List.set_cons_succ, errW_none, errW_some]) (hCont (.slice Ao31 t217.length co31, v222, gb225) _ ⟨hHeld, (by (with_reducible repeat (first | apply Kd.R_alloc | apply Kd.R_drewN | apply Kd.R_drew)); exact Kd.R_mono HO219.out (fun _ hk => ⟨hk.2, hk.1.2⟩)), (by (with_reducible repeat (first | apply Kd.R_alloc | apply Kd.R_drewN | apply Kd.R_drew)); exact Kd.R_mono HO223.out (fun _ hk => ⟨hk.2, hk.1.2⟩)), (by (with_reducible repeat (first | apply Kd.R_alloc | apply Kd.R_drewN | apply Kd.R_drew)); exact Kd.R_mono HO_214001.out (fun _ hk => ⟨hk.1.2, hk.2⟩)), pk, pk, pk, GW225.out, GE225.out, NB207_225.out, NB225_207.out, NB213_225.out, NB225_213.out, pw⟩)
         rintro ⟨v218, v222, gb225⟩ w33 ⟨hS_, h0_, h1_, h2_, h3_, h4_, h5_, h6_, h7_, h8_, h9_, h10_, h11_, h12_⟩
         have n0_ : Aside0 (Kd.R k42 42 w33 w.heap.size (fun k_ => some k_ ≠ (v222 : Value).ownBlock ∧ some k_ ≠ (.slice Ao27 x214001_2.length co27 : Value).ownBlock) v218 t217) := ⟨h0_⟩
         have n1_ : Aside0 (Kd.R k42 42 w33 w.heap.size (fun k_ => some k_ ≠ (v218 : Value).ownBlock ∧ some k_ ≠ (.slice Ao27 x214001_2.length co27 : Value).ownBlock) v222 t221) := ⟨h1_⟩
         have n2_ : Aside0 (Kd.R k42 42 w33 w.heap.size (fun k_ => some k_ ≠ (v218 : Value).ownBlock ∧ some k_ ≠ (v222 : Value).ownBlock) (.slice Ao27 x214001_2.length co27) x214001_2) := ⟨h2_⟩
         have n3_ : Aside0 (w33.heap[gb207]? = some (.cells #[.int .i64 a0_0, .slice A0_1 l0_1.length c0_1] 33 (0, 0))) := ⟨h3_⟩
         have n4_ : Aside0 (w33.heap[gb213]? = some (.cells #[.int .i64 x214000_2, .slice Ao27 x214001_2.length co27] 37 (0, 0))) := ⟨h4_⟩
         have n5_ : Aside0 (w33.heap[gb225]? = some (.cells #[.int .i64 0, .slice none 0 0] 37 (0, 0))) := ⟨h5_⟩
         have n6_ : Aside0 (w.heap.size ≤ gb225) := ⟨h6_⟩
         have n7_ : Aside0 (w.heap.size ≤ gb225) := ⟨h7_⟩
         have n8_ : Aside0 (gb207 ≠ gb225) := ⟨h8_⟩
         have n9_ : Aside0 (gb225 ≠ gb207) := ⟨h9_⟩
         have n10_ : Aside0 (gb213 ≠ gb225) := ⟨h10_⟩
         have n11_ : Aside0 (gb225 ≠ gb213) := ⟨h11_⟩
         have n12_ : Aside0 (Below w.heap.size w w33) := ⟨h12_⟩
         clear HO_214001
         clear BK207
         clear BK213
         clear HB
         clear h0_ h1_ h2_ h3_ h4_ h5_ h6_ h7_ h8_ h9_ h10_ h11_ h12_
         revert n0_ n1_ n2_ n3_ n4_ n5_ n6_ n7_ n8_ n9_ n10_ n11_ n12_
         intro HO219 HO223 HO_214001 BK207 BK213 BK225 GW225 GE225 NB207_225 NB225_207 NB213_225 NB225_213 HB
         have hHeld : w33.cell? ⟨gb213, 0, none⟩ = some (.int .i64 x214000_2) ∧ w33.cell? ⟨gb213, 1, none⟩ = some (.slice Ao27 x214001_2.length co27) ∧ w33.cell? (ad214.add ((x8_2).toNat * 2)) = some (.int .i64 ((rd_T33 l1 x8_2).f0)) ∧ w33.cell? ⟨(ad214.add ((x8_2).toNat * 2)).block, (ad214.add ((x8_2).toNat * 2)).off + 1, none⟩ = some (.slice A215_1 ((rd_T33 l1 x8_2).f1).length c215_1) := hS_
         obtain ⟨Ao35, co35, eo35⟩ := Kd.R_slice HO223.out
         (first | subst eo35 | (injection eo35 with f1_ f2_ f3_; have f4_ := f1_.symm; have f5_ := f3_.symm; clear f1_ f2_ f3_; subst f4_; subst f5_))
         refine norm_ (a' := ?_) ?_ ?_
         rotate_left
         ·simp only [putAll, Act.put, List.setIfInBounds_toArray, List.set_cons_zero, List.set_cons_succ]
          rfl
         refine one_ (i := 11) (N := none) #[true, true, true, true, true, true, true, true, true, true, true, true, false] rfl rfl (one_of HT_.out kk) (by decide) (fun K hK => ?_)
         have hs34 : w33.cell? ⟨gb225, 0, none⟩ = some (.int .i64 0) := bc BK225 0
         have hfs34 := blk_frozen BK225.out 0
         have hns34_0 := NB207_225.out
         have hns34_1 := NB213_225.out
         have hms34_0 := NB225_207.out
         have hms34_1 := NB225_213.out
         have hs36 : w33.cell? ⟨gb225, 1, none⟩ = some (.slice none 0 0) := bc BK225 1
         have hfs36 := blk_frozen BK225.out 1
         have hns36_0 := NB207_225.out
         have hns36_1 := NB213_225.out
         have hms36_0 := NB225_207.out
         have hms36_1 := NB225_213.out
         refine skip_ (w1 := ?_) (by rfl) rfl ?_ ?_
         rotate_left
         ·go_simp
          rfl
         refine hK.out _ _ ⟨((cell_far (p := ⟨gb225, _, none⟩) NB213_225.out _).trans (((cell_far (p := ⟨gb225, _, none⟩) NB213_225.out _).trans (hHeld.1)))), ((cell_far (p := ⟨gb225, _, none⟩) NB213_225.out _).trans (((cell_far (p := ⟨gb225, _, none⟩) NB213_225.out _).trans (hHeld.2.1)))), ((cell_far (p := ⟨gb225, _, none⟩) (by first | exact Nat.ne_of_lt (Nat.lt_of_lt_of_le (by have := World.block_lt_of_cell? _ _ hw215_0; first | rwa [add_block] at this | exact this) GW225.out) | (rw [add_block]; exact Nat.ne_of_lt (Nat.lt_of_lt_of_le (by have := World.block_lt_of_cell? _ _ hw215_0; first | rwa [add_block] at this | exact this) GW225.out)) | (show (Addr.add _ _).block ≠ _; rw [add_block]; exact Nat.ne_of_lt (Nat.lt_of_lt_of_le (by have := World.block_lt_of_cell? _ _ hw215_0; first | rwa [add_block] at this | exact this) GW225.out)) | (dsimp only; exact Nat.ne_of_lt (Nat.lt_of_lt_of_le (by have := World.block_lt_of_cell? _ _ hw215_0; first | rwa [add_block] at this | exact this) GW225.out))) _).trans (((cell_far (p := ⟨gb225, _, none⟩) (by first | exact Nat.ne_of_lt (Nat.lt_of_lt_of_le (by have := World.block_lt_of_cell? _ _ hw215_0; first | rwa [add_block] at this | exact this) GW225.out) | (rw [add_block]; exact Nat.ne_of_lt (Nat.lt_of_lt_of_le (by have := World.block_lt_of_cell? _ _ hw215_0; first | rwa [add_block] at this | exact this) GW225.out)) | (show (Addr.add _ _).block ≠ _; rw [add_block]; exact Nat.ne_of_lt (Nat.lt_of_lt_of_le (by have := World.block_lt_of_cell? _ _ hw215_0; first | rwa [add_block] at this | exact this) GW225.out)) | (dsimp only; exact Nat.ne_of_lt (Nat.lt_of_lt_of_le (by have := World.block_lt_of_cell? _ _ hw215_0; first | rwa [add_block] at this | exact this) GW225.out))) _).trans (hHeld.2.2.1)))), ((cell_far (p := ⟨gb225, _, none⟩) (by first | exact Nat.ne_of_lt (Nat.lt_of_lt_of_le (by have := World.block_lt_of_cell? _ _ hw215_1; first | rwa [add_block] at this | exact this) GW225.out) | (rw [add_block]; exact Nat.ne_of_lt (Nat.lt_of_lt_of_le (by have := World.block_lt_of_cell? _ _ hw215_1; first | rwa [add_block] at this | exact this) GW225.out)) | (show (Addr.add _ _).block ≠ _; rw [add_block]; exact Nat.ne_of_lt (Nat.lt_of_lt_of_le (by have := World.block_lt_of_cell? _ _ hw215_1; first | rwa [add_block] at this | exact this) GW225.out)) | (dsimp only; exact Nat.ne_of_lt (Nat.lt_of_lt_of_le (by have := World.block_lt_of_cell? _ _ hw215_1; first | rwa [add_block] at this | exact this) GW225.out))) _).trans (((cell_far (p := ⟨gb225, _, none⟩) (by first | exact Nat.ne_of_lt (Nat.lt_of_lt_of_le (by have := World.block_lt_of_cell? _ _ hw215_1; first | rwa [add_block] at this | exact this) GW225.out) | (rw [add_block]; exact Nat.ne_of_lt (Nat.lt_of_lt_of_le (by have := World.block_lt_of_cell? _ _ hw215_1; first | rwa [add_block] at this | exact this) GW225.out)) | (show (Addr.add _ _).block ≠ _; rw [add_block]; exact Nat.ne_of_lt (Nat.lt_of_lt_of_le (by have := World.block_lt_of_cell? _ _ hw215_1; first | rwa [add_block] at this | exact this) GW225.out)) | (dsimp only; exact Nat.ne_of_lt (Nat.lt_of_lt_of_le (by have := World.block_lt_of_cell? _ _ hw215_1; first | rwa [add_block] at this | exact this) GW225.out))) _).trans (hHeld.2.2.2))))⟩ (fun hHeld => ?_)
         clear hK K
         refine pure_ (i := 12) (N := some 10) (v := ?_) (a' := ?_) #[true, true, true, true, true, true, true, true, true, true, true, true, true] rfl rfl (any_of HT_.out kk) (fun _ _ _ h => h) (Or.inl ⟨by rfl, ?_⟩) ?_ ?_
         rotate_left
         ·intro w'
          go_simp
          with_reducible rfl
         rotate_left
         ·simp only [Act.put, List.setIfInBounds_toArray, List.set_cons_zero, List.set_cons_succ, i64_w, i32_w]
          rfl
         refine done_ (done_of HT_.out kk) ?_
         (try simp only [errW_none, errW_some])
         try go_wp2
         have n0_ : Aside0 (Kd.R k42 42 ((w33.setCell ⟨gb225, 0, none⟩ (.int .i64 t220)).setCell ⟨gb225, 1, none⟩ (.slice Ao35 t221.length co35)) w.heap.size (fun k_ => some k_ ≠ (v218 : Value).ownBlock ∧ some k_ ≠ (.slice Ao35 t221.length co35 : Value).ownBlock) (.slice Ao27 x214001_2.length co27) x214001_2) := ⟨by (with_reducible repeat (first | apply Kd.R_alloc | apply Kd.R_drewN | apply Kd.R_drew)); exact Kd.R_mono (Kd.R_far (p := ⟨gb225, 1, none⟩) (Kd.R_far (p := ⟨gb225, 0, none⟩) (Kd.R_types HO_214001.out BK225.out (by decide)) (fun _ hk => hk.2) (.int .i64 t220)) (fun _ hk => hk.2) (.slice Ao35 t221.length co35)) (fun _ hk => ⟨hk.1.1, hk.1.2⟩)⟩
         have n1_ : Aside0 (Kd.R k42 42 ((w33.setCell ⟨gb225, 0, none⟩ (.int .i64 t220)).setCell ⟨gb225, 1, none⟩ (.slice Ao35 t221.length co35)) w.heap.size (fun k_ => some k_ ≠ (.slice Ao27 x214001_2.length co27 : Value).ownBlock ∧ some k_ ≠ (.slice Ao35 t221.length co35 : Value).ownBlock) v218 t217) := ⟨by (with_reducible repeat (first | apply Kd.R_alloc | apply Kd.R_drewN | apply Kd.R_drew)); exact Kd.R_mono (Kd.R_far (p := ⟨gb225, 1, none⟩) (Kd.R_far (p := ⟨gb225, 0, none⟩) (Kd.R_types HO219.out BK225.out (by decide)) (fun _ hk => hk.2) (.int .i64 t220)) (fun _ hk => hk.2) (.slice Ao35 t221.length co35)) (fun _ hk => ⟨hk.1.2, hk.1.1⟩)⟩
         have n2_ : Aside0 (Kd.R k42 42 ((w33.setCell ⟨gb225, 0, none⟩ (.int .i64 t220)).setCell ⟨gb225, 1, none⟩ (.slice Ao35 t221.length co35)) w.heap.size (fun k_ => some k_ ≠ (.slice Ao27 x214001_2.length co27 : Value).ownBlock ∧ some k_ ≠ (v218 : Value).ownBlock) (.slice Ao35 t221.length co35) t221) := ⟨by (with_reducible repeat (first | apply Kd.R_alloc | apply Kd.R_drewN | apply Kd.R_drew)); exact Kd.R_mono (Kd.R_far (p := ⟨gb225, 1, none⟩) (Kd.R_far (p := ⟨gb225, 0, none⟩) (Kd.R_types HO223.out BK225.out (by decide)) (fun _ hk => hk.2) (.int .i64 t220)) (fun _ hk => hk.2) (.slice Ao35 t221.length co35)) (fun _ hk => ⟨hk.1.2, hk.1.1⟩)⟩
         have n3_ : Aside0 (((w33.setCell ⟨gb225, 0, none⟩ (.int .i64 t220)).setCell ⟨gb225, 1, none⟩ (.slice Ao35 t221.length co35)).heap[gb207]? = some (.cells #[.int .i64 a0_0, .slice A0_1 l0_1.length c0_1] 33 (0, 0))) := ⟨by (with_reducible repeat (first | refine blk_drewN ?_ _ | refine blk_drew ?_ | refine blk_alloc ?_ _)); refine blk_far ?_ NB207_225.out _; (with_reducible repeat (first | refine blk_drewN ?_ _ | refine blk_drew ?_ | refine blk_alloc ?_ _)); refine blk_far ?_ NB207_225.out _; (with_reducible repeat (first | refine blk_drewN ?_ _ | refine blk_drew ?_ | refine blk_alloc ?_ _)); exact BK207.out⟩
         have n4_ : Aside0 (((w33.setCell ⟨gb225, 0, none⟩ (.int .i64 t220)).setCell ⟨gb225, 1, none⟩ (.slice Ao35 t221.length co35)).heap[gb213]? = some (.cells #[.int .i64 x214000_2, .slice Ao27 x214001_2.length co27] 37 (0, 0))) := ⟨by (with_reducible repeat (first | refine blk_drewN ?_ _ | refine blk_drew ?_ | refine blk_alloc ?_ _)); refine blk_far ?_ NB213_225.out _; (with_reducible repeat (first | refine blk_drewN ?_ _ | refine blk_drew ?_ | refine blk_alloc ?_ _)); refine blk_far ?_ NB213_225.out _; (with_reducible repeat (first | refine blk_drewN ?_ _ | refine blk_drew ?_ | refine blk_alloc ?_ _)); exact BK213.out⟩
         have n5_ : Aside0 (((w33.setCell ⟨gb225, 0, none⟩ (.int .i64 t220)).setCell ⟨gb225, 1, none⟩ (.slice Ao35 t221.length co35)).heap[gb225]? = some (.cells #[.int .i64 t220, .slice Ao35 t221.length co35] 37 (0, 0))) := ⟨by (with_reducible repeat (first | refine blk_drewN ?_ _ | refine blk_drew ?_ | refine blk_alloc ?_ _)); refine blk_put (cs := #[.int .i64 t220, .slice none 0 0]) ?_ 1 _ rfl; (with_reducible repeat (first | refine blk_drewN ?_ _ | refine blk_drew ?_ | refine blk_alloc ?_ _)); refine blk_put (cs := #[.int .i64 0, .slice none 0 0]) ?_ 0 _ rfl; (with_reducible repeat (first | refine blk_drewN ?_ _ | refine blk_drew ?_ | refine blk_alloc ?_ _)); exact BK225.out⟩
         have n6_ : Aside0 (Below w.heap.size w ((w33.setCell ⟨gb225, 0, none⟩ (.int .i64 t220)).setCell ⟨gb225, 1, none⟩ (.slice Ao35 t221.length co35))) := ⟨pw⟩
         (try clear HO_214001)
         (try clear HO219)
         (try clear HO223)
         (try clear BK207)
         (try clear BK213)
         (try clear BK225)
         (try clear HB)
         generalize ((w33.setCell ⟨gb225, 0, none⟩ (.int .i64 t220)).setCell ⟨gb225, 1, none⟩ (.slice Ao35 t221.length co35)) = w37 at n0_ n1_ n2_ n3_ n4_ n5_ n6_ ⊢
         revert n0_ n1_ n2_ n3_ n4_ n5_ n6_
         intro HO_214001 HO219 HO223 BK207 BK213 BK225 HB
         have n0_ := am (Kd.R_drew HO_214001.out)
         have n1_ := am (Kd.R_drew HO219.out)
         have n2_ := am (Kd.R_drew HO223.out)
         have n3_ := am (blk_drew BK207.out)
         have n4_ := am (blk_drew BK213.out)
         have n5_ := am (blk_drew BK225.out)
         have n6_ := am (below_drew1 HB.out)
         clear HO_214001 HO219 HO223 BK207 BK213 BK225 HB
         revert n0_ n1_ n2_ n3_ n4_ n5_ n6_
         intro HO_214001 HO219 HO223 BK207 BK213 BK225 HB
         refine start_ (n := 5) (S := fun w' => w'.cell? ⟨gb225, 0, none⟩ = some (.int .i64 t220) ∧ w'.cell? ⟨gb225, 1, none⟩ = some (.slice Ao35 t221.length co35) ∧ w'.cell? ⟨gb213, 0, none⟩ = some (.int .i64 x214000_2) ∧ w'.cell? ⟨gb213, 1, none⟩ = some (.slice Ao27 x214001_2.length co27)) (ds := []) #[false, false, false, false, false] kk rfl rfl ⟨bc BK225 0, bc BK225 1, bc BK213 0, bc BK213 1⟩ (fun hHeld => ?_)
         generalize w37.drew = w38 at HO_214001 HO219 HO223 BK207 BK213 BK225 HB hHeld ⊢
         refine take_ (i := 0) (N := some 53) (v := ?_) (a' := ?_) #[true, false, false, false, false] rfl rfl kk (fun _ _ _ h => h) (Or.inl ⟨by rfl, ?_⟩) hHeld ?_ ?_
         rotate_left
         ·rintro w' ⟨s0, s1, s2, s3⟩
          go_simp
          with_reducible rfl
         rotate_left
         ·simp only [Act.put, List.setIfInBounds_toArray, List.set_cons_zero, List.set_cons_succ, i64_w, i32_w]
          rfl
         refine take_ (i := 1) (N := some 54) (v := ?_) (a' := ?_) #[true, true, false, false, false] rfl rfl kk (fun _ _ _ h => h) (Or.inl ⟨by rfl, ?_⟩) hHeld ?_ ?_
         rotate_left
         ·rintro w' ⟨s0, s1, s2, s3⟩
          go_simp
          with_reducible rfl
         rotate_left
         ·simp only [Act.put, List.setIfInBounds_toArray, List.set_cons_zero, List.set_cons_succ, i64_w, i32_w]
          rfl
         refine one_ (i := 2) (N := some 55) #[true, true, true, false, false] rfl rfl kk (by decide) (fun K hK => ?_)
         refine goes_ Tryd.func32 kk rfl #[.agg #[.int .i64 x214000_2, .slice Ao27 x214001_2.length co27]] (by rfl) rfl rfl (by (try simp only [List.map_toArray, List.map_cons, List.map_nil]); first | done | rfl | (simp only [List.length_drop, List.length_take]; rfl)) ?_
         with_reducible refine (L2_zoneBack.calls k2 x214000_2 _ _ x214001_2 t227 t228 _ ?side1 ?side2 A24.out).mono ?_
         (case side1 => repeat (first | exact (Kd.R_reads' HO_214001.out).2.2 | (with_reducible refine Kd.C_alloc ?_ _) | (with_reducible refine Kd.C_drewN ?_ _) | (with_reducible refine Kd.C_drew ?_)))
         (case side2 => exact (Kd.R_reads' HO_214001.out).2.1)
         rintro e w39 ⟨v229, rfl, ho0, hb⟩
         refine ⟨_, rfl, ?_⟩
         have n0_ := am (Kd.R_below (by (with_reducible repeat (first | apply Kd.R_alloc | apply Kd.R_drewN | apply Kd.R_drew)); exact HO_214001.out) hb)
         have n1_ := am (Kd.R_below (by (with_reducible repeat (first | apply Kd.R_alloc | apply Kd.R_drewN | apply Kd.R_drew)); exact HO219.out) hb)
         have n2_ := am (Kd.R_below (by (with_reducible repeat (first | apply Kd.R_alloc | apply Kd.R_drewN | apply Kd.R_drew)); exact HO223.out) hb)
         have n3_ := am (Kd.R_lower ho0 (below_size pw))
         have n4_ := bb BK207 hb
         have n5_ := bb BK213 hb
         have n6_ := bb BK225 hb
         have n7_ := am (below_step pw hb)
         clear HO_214001 HO219 HO223 BK207 BK213 BK225 HB
         revert n0_ n1_ n2_ n3_ n4_ n5_ n6_ n7_
         intro HO_214001 HO219 HO223 HO230 BK207 BK213 BK225 HB
         (try clear hb)
         (try clear hb2)
         (try clear hk)
         (try clear hi)
         (try clear ho0)
         obtain ⟨Ao40, co40, eo40⟩ := Kd.R_slice HO230.out
         (first | subst eo40 | (injection eo40 with f1_ f2_ f3_; have f4_ := f1_.symm; have f5_ := f3_.symm; clear f1_ f2_ f3_; subst f4_; subst f5_))
         refine hK.out _ _ ⟨bc BK225 0, bc BK225 1, bc BK213 0, bc BK213 1⟩ (fun hHeld => ?_)
         clear hK K
         refine norm_ (a' := ?_) ?_ ?_
         rotate_left
         ·show Act.put _ (some 55) _ = _
          simp only [Act.put, List.setIfInBounds_toArray, List.set_cons_zero, List.set_cons_succ, i64_w, i32_w]
          rfl
         refine one_ (i := 3) (N := some 56) #[true, true, true, true, false] rfl rfl kk (by decide) (fun K hK => ?_)
         refine goes_ Tryd.func31 kk rfl #[.agg #[.int .i64 t220, .slice Ao35 t221.length co35], .agg #[.int .i64 t227, .slice Ao40 t228.length co40]] (by rfl) rfl rfl (by (try simp only [List.map_toArray, List.map_cons, List.map_nil]); first | done | rfl | (simp only [List.length_drop, List.length_take]; rfl)) ?_
         with_reducible refine (L2_isZone.calls k2 t220 _ _ t221 t227 _ _ t228 true _ ?side1 ?side2 ?side3 ?side4 A25.out).mono ?_
         (case side1 => repeat (first | exact (Kd.R_reads' HO223.out).2.2 | (with_reducible refine Kd.C_alloc ?_ _) | (with_reducible refine Kd.C_drewN ?_ _) | (with_reducible refine Kd.C_drew ?_)))
         (case side2 => exact (Kd.R_reads' HO223.out).2.1)
         (case side3 => repeat (first | exact (Kd.R_reads' HO230.out).2.2 | (with_reducible refine Kd.C_alloc ?_ _) | (with_reducible refine Kd.C_drewN ?_ _) | (with_reducible refine Kd.C_drew ?_)))
         (case side4 => exact (Kd.R_reads' HO230.out).2.1)
         rintro e w41 ⟨rfl, hb⟩
         refine ⟨_, rfl, ?_⟩
         have n0_ := am (Kd.R_below (by (with_reducible repeat (first | apply Kd.R_alloc | apply Kd.R_drewN | apply Kd.R_drew)); exact HO_214001.out) hb)
         have n1_ := am (Kd.R_below (by (with_reducible repeat (first | apply Kd.R_alloc | apply Kd.R_drewN | apply Kd.R_drew)); exact HO219.out) hb)
         have n2_ := am (Kd.R_below (by (with_reducible repeat (first | apply Kd.R_alloc | apply Kd.R_drewN | apply Kd.R_drew)); exact HO223.out) hb)
         have n3_ := am (Kd.R_below (by (with_reducible repeat (first | apply Kd.R_alloc | apply Kd.R_drewN | apply Kd.R_drew)); exact HO230.out) hb)
         have n4_ := bb BK207 hb
         have n5_ := bb BK213 hb
         have n6_ := bb BK225 hb
         have n7_ := am (below_step pw hb)
         clear HO_214001 HO219 HO223 HO230 BK207 BK213 BK225 HB
         revert n0_ n1_ n2_ n3_ n4_ n5_ n6_ n7_
         intro HO_214001 HO219 HO223 HO230 BK207 BK213 BK225 HB
         (try clear hb)
         (try clear hb2)
         (try clear hk)
         (try clear hi)
         refine hK.out _ _ ⟨bc BK225 0, bc BK225 1, bc BK213 0, bc BK213 1⟩ (fun hHeld => ?_)
         clear hK K
         refine norm_ (a' := ?_) ?_ ?_
         rotate_left
         ·show Act.put _ (some 56) _ = _
          simp only [Act.put, List.setIfInBounds_toArray, List.set_cons_zero, List.set_cons_succ, i64_w, i32_w]
          rfl
         refine pure_ (i := 4) (N := some 57) (v := ?_) (a' := ?_) #[true, true, true, true, true] rfl rfl kk (fun _ _ _ h => h) (Or.inl ⟨by rfl, ?_⟩) ?_ ?_
         rotate_left
         ·intro w'
          go_simp
          with_reducible rfl
         rotate_left
         ·simp only [Act.put, List.setIfInBounds_toArray, List.set_cons_zero, List.set_cons_succ, i64_w, i32_w]
          rfl
         refine done_ kk ?_
         have hnb42 := NB225_207.out
         have hnc42 := NB207_225.out
         have hnb43 := NB225_213.out
         have hnc43 := NB213_225.out
         have hcz44_0 : w41.cell? ⟨gb225, 0, none⟩ = some (.int .i64 t220) := bc BK225 0
         have hcz44_1 : w41.cell? ⟨gb225, 1, none⟩ = some (.slice Ao35 t221.length co35) := bc BK225 1
         have hfz44_0 := blk_frozen BK225.out 0
         have hfz44_1 := blk_frozen BK225.out 1
         have hnb45 := NB213_207.out
         have hnc45 := NB207_213.out
         have hcz46_0 : w41.cell? ⟨gb213, 0, none⟩ = some (.int .i64 x214000_2) := bc BK213 0
         have hcz46_1 : w41.cell? ⟨gb213, 1, none⟩ = some (.slice Ao27 x214001_2.length co27) := bc BK213 1
         have hfz46_0 := blk_frozen BK213.out 0
         have hfz46_1 := blk_frozen BK213.out 1
         try go_wp2
         go_roundg k2
         case measure => have := HJ3.out; have := HK2.out; omega
         case rel => exact ⟨(x7_2), (wrap64 (x8_2 + 1)), (t220), (t221), (.slice Ao35 t221.length co35), pr, pr, H', ⟨by have := HJ3.out; have := HK2.out; omega⟩, ⟨by (with_reducible repeat (first | apply Kd.R_alloc | apply Kd.R_drewN | apply Kd.R_drew)); exact Kd.R_mono (Kd.R_far (p := ⟨gb213, 1, none⟩) (Kd.R_far (p := ⟨gb213, 0, none⟩) (Kd.R_types HO223.out BK213.out (by decide)) (fun _ hk => hk.2) (.int .i64 t220)) (fun _ hk => hk.2) (.slice Ao35 t221.length co35)) (fun _ hk => trivial)⟩, ⟨by (with_reducible repeat (first | refine blk_drewN ?_ _ | refine blk_drew ?_ | refine blk_alloc ?_ _)); refine blk_far ?_ NB207_213.out _; (with_reducible repeat (first | refine blk_drewN ?_ _ | refine blk_drew ?_ | refine blk_alloc ?_ _)); refine blk_far ?_ NB207_213.out _; (with_reducible repeat (first | refine blk_drewN ?_ _ | refine blk_drew ?_ | refine blk_alloc ?_ _)); exact BK207.out⟩, ⟨by (with_reducible repeat (first | refine blk_drewN ?_ _ | refine blk_drew ?_ | refine blk_alloc ?_ _)); refine blk_put (cs := #[.int .i64 t220, .slice Ao27 x214001_2.length co27]) ?_ 1 _ rfl; (with_reducible repeat (first | refine blk_drewN ?_ _ | refine blk_drew ?_ | refine blk_alloc ?_ _)); refine blk_put (cs := #[.int .i64 x214000_2, .slice Ao27 x214001_2.length co27]) ?_ 0 _ rfl; (with_reducible repeat (first | refine blk_drewN ?_ _ | refine blk_drew ?_ | refine blk_alloc ?_ _)); exact BK213.out⟩, ⟨pw⟩⟩
       replace c26 := Bool.eq_false_iff.mpr c26
       subst c26
       have H1 : (L2_ZoneStays.l0 k2 l1 (wrap64 (x7_2 + 1)) (wrap64 (x8_2 + 1)) a0_0 l0_1 t220 t221) = some r := by rw [if_neg (show ¬ (false = true) by decide)] at H; exact H
       clear H
       have H := H1
       clear H1
       as_aux_lemma =>
        have H' := am H
        clear H
        have p214 : 0 ≤ (x8_2 : Int) := of_decide_eq_true (by first | (with_reducible assumption) | assumption)
        have q214 : x8_2 < (l1.length : Int) := of_decide_eq_true (by first | (with_reducible assumption) | assumption)
        obtain ⟨ad214, A214_1, c214_1, e214, hx214_0, hx214_1, hl214_1, hi214_1⟩ := at_T33 HR1.out x8_2 p214 q214
        cases e214
        replace hx214_0 := (HB.out.cell (World.block_lt_of_cell? w _ hx214_0)).trans hx214_0
        replace hx214_1 := (HB.out.cell (World.block_lt_of_cell? w _ hx214_1)).trans hx214_1
        have HR214_1 := am hi214_1
        have HC214_1 := am hl214_1
        clear hi214_1 hl214_1
        replace p214 := eq_true p214
        replace q214 := eq_true q214
        obtain ⟨Ao47, co47, eo47⟩ := Kd.R_slice HO_214001.out
        subst eo47
        try go_wp2
        have n0_ := am (Kd.R_drew HO_214001.out)
        have n1_ := am (blk_drew BK207.out)
        have n2_ := am (blk_drew BK213.out)
        have n3_ := am (below_drew1 HB.out)
        clear HO_214001 BK207 BK213 HB
        revert n0_ n1_ n2_ n3_
        intro HO_214001 BK207 BK213 HB
        have p215 : 0 ≤ (x8_2 : Int) := of_decide_eq_true (by first | (with_reducible assumption) | assumption)
        have q215 : x8_2 < (l1.length : Int) := of_decide_eq_true (by first | (with_reducible assumption) | assumption)
        obtain ⟨ad215, A215_1, c215_1, e215, hx215_0, hx215_1, hl215_1, hi215_1⟩ := at_T33 HR1.out x8_2 p215 q215
        have hw215_1 := hx215_1
        have hw215_0 := hx215_0
        obtain rfl : ad214 = ad215 := (by injection e215)
        replace hx215_0 := (HB.out.cell (World.block_lt_of_cell? w _ hx215_0)).trans hx215_0
        replace hx215_1 := (HB.out.cell (World.block_lt_of_cell? w _ hx215_1)).trans hx215_1
        have HR215_1 := am hi215_1
        have HC215_1 := am hl215_1
        clear hi215_1 hl215_1
        replace p215 := eq_true p215
        replace q215 := eq_true q215
        refine start_ (n := 13) (S := fun w' => w'.cell? ⟨gb213, 0, none⟩ = some (.int .i64 x214000_2) ∧ w'.cell? ⟨gb213, 1, none⟩ = some (.slice Ao47 x214001_2.length co47) ∧ w'.cell? (ad214.add ((x8_2).toNat * 2)) = some (.int .i64 ((rd_T33 l1 x8_2).f0)) ∧ w'.cell? ⟨(ad214.add ((x8_2).toNat * 2)).block, (ad214.add ((x8_2).toNat * 2)).off + 1, none⟩ = some (.slice A215_1 ((rd_T33 l1 x8_2).f1).length c215_1)) (ds := []) #[false, false, false, false, false, false, false, false, false, false, false, false, false] kk rfl rfl ⟨bc BK213 0, bc BK213 1, ((HB.out.cell (World.block_lt_of_cell? w _ hw215_0)).trans hw215_0), ((HB.out.cell (World.block_lt_of_cell? w _ hw215_1)).trans hw215_1)⟩ (fun hHeld => ?_); refine with_tabW L2_ZoneStays.tab11 L2_ZoneStays.bits11 (fun HT_ HW_ => ?_)
        generalize wr.drew = w48 at HO_214001 BK207 BK213 HB HR215_1 hx215_0 hx215_1 hHeld ⊢
        refine pure_ (i := 1) (N := some 43) (v := ?_) (a' := ?_) #[false, true, false, false, false, false, false, false, false, false, false, false, false] rfl rfl (any_of HT_.out kk) (fun _ _ _ h => h) (Or.inl ⟨by rfl, ?_⟩) ?_ ?_
        rotate_left
        ·intro w'
         go_simp
         with_reducible rfl
        rotate_left
        ·simp only [Act.put, List.setIfInBounds_toArray, List.set_cons_zero, List.set_cons_succ, i64_w, i32_w]
         rfl
        refine pure_ (i := 2) (N := some 44) (v := ?_) (a' := ?_) #[false, true, true, false, false, false, false, false, false, false, false, false, false] rfl rfl (any_of HT_.out kk) (fun _ _ _ h => h) (Or.inl ⟨by rfl, ?_⟩) ?_ ?_
        rotate_left
        ·intro w'
         go_simp
         with_reducible rfl
        rotate_left
        ·simp only [Act.put, List.setIfInBounds_toArray, List.set_cons_zero, List.set_cons_succ, i64_w, i32_w]
         rfl
        refine pure_ (i := 3) (N := some 45) (v := ?_) (a' := ?_) #[false, true, true, true, false, false, false, false, false, false, false, false, false] rfl rfl (any_of HT_.out kk) (fun _ _ _ h => h) (Or.inl ⟨by rfl, ?_⟩) ?_ ?_
        rotate_left
        ·intro w'
         go_simp
         with_reducible rfl
        rotate_left
        ·simp only [Act.put, List.setIfInBounds_toArray, List.set_cons_zero, List.set_cons_succ, i64_w, i32_w]
         rfl
        refine take_ (i := 0) (N := some 42) (v := ?_) (a' := ?_) #[true, true, true, true, false, false, false, false, false, false, false, false, false] rfl rfl (take_ofW HT_.out HW_.out kk) (fun _ _ _ h => h) (Or.inl ⟨by rfl, ?_⟩) hHeld ?_ ?_
        rotate_left
        ·rintro w' ⟨s0, s1, s2, s3⟩
         go_simp
         with_reducible rfl
        rotate_left
        ·simp only [Act.put, List.setIfInBounds_toArray, List.set_cons_zero, List.set_cons_succ, i64_w, i32_w]
         rfl
        refine take_ (i := 4) (N := some 46) (v := ?_) (a' := ?_) #[true, true, true, true, true, false, false, false, false, false, false, false, false] rfl rfl (take_ofW HT_.out HW_.out kk) (fun _ _ _ h => h) (Or.inl ⟨by rfl, ?_⟩) hHeld ?_ ?_
        rotate_left
        ·rintro w' ⟨s0, s1, s2, s3⟩
         go_simp
         with_reducible rfl
        rotate_left
        ·simp only [Act.put, List.setIfInBounds_toArray, List.set_cons_zero, List.set_cons_succ, i64_w, i32_w]
         rfl
        refine join_ (σ := Value × Value × Nat) 2 #[true, true, true, true, true, true, true, true, true, true, true, false, false] (fun s_ => [(47, .agg #[.int .i64 t216, s_.1]), (48, .tuple #[.agg #[.int .i64 t220, s_.2.1], .nilIface]), (9, .pointer (some ⟨s_.2.2, 0, none⟩)), (41, .tuple #[.agg #[.int .i64 t220, s_.2.1], .nilIface]), (49, .agg #[.int .i64 t220, s_.2.1]), (50, .nilIface)]) (fun s_ w' => (w'.cell? ⟨gb213, 0, none⟩ = some (.int .i64 x214000_2) ∧ w'.cell? ⟨gb213, 1, none⟩ = some (.slice Ao47 x214001_2.length co47) ∧ w'.cell? (ad214.add ((x8_2).toNat * 2)) = some (.int .i64 ((rd_T33 l1 x8_2).f0)) ∧ w'.cell? ⟨(ad214.add ((x8_2).toNat * 2)).block, (ad214.add ((x8_2).toNat * 2)).off + 1, none⟩ = some (.slice A215_1 ((rd_T33 l1 x8_2).f1).length c215_1)) ∧ (Kd.R k42 42 w' w.heap.size (fun k_ => some k_ ≠ (s_.2.1 : Value).ownBlock ∧ some k_ ≠ (.slice Ao47 x214001_2.length co47 : Value).ownBlock) s_.1 t217) ∧ (Kd.R k42 42 w' w.heap.size (fun k_ => some k_ ≠ (s_.1 : Value).ownBlock ∧ some k_ ≠ (.slice Ao47 x214001_2.length co47 : Value).ownBlock) s_.2.1 t221) ∧ (Kd.R k42 42 w' w.heap.size (fun k_ => some k_ ≠ (s_.1 : Value).ownBlock ∧ some k_ ≠ (s_.2.1 : Value).ownBlock) (.slice Ao47 x214001_2.length co47) x214001_2) ∧ (w'.heap[gb207]? = some (.cells #[.int .i64 a0_0, .slice A0_1 l0_1.length c0_1] 33 (0, 0))) ∧ (w'.heap[gb213]? = some (.cells #[.int .i64 x214000_2, .slice Ao47 x214001_2.length co47] 37 (0, 0))) ∧ (w'.heap[s_.2.2]? = some (.cells #[.int .i64 0, .slice none 0 0] 37 (0, 0))) ∧ (w.heap.size ≤ s_.2.2) ∧ (w.heap.size ≤ s_.2.2) ∧ (gb207 ≠ s_.2.2) ∧ (s_.2.2 ≠ gb207) ∧ (gb213 ≠ s_.2.2) ∧ (s_.2.2 ≠ gb213) ∧ (Below w.heap.size w w')) ?_ ?_
        rotate_left
        ·intro hCont
         refine two_ (i := 5) (j := 10) (Ni := some 47) (Nj := some 9) #[true, true, true, true, true, true, false, false, false, false, false, false, false] #[true, true, true, true, true, false, false, false, false, false, true, false, false] rfl rfl rfl rfl (two_of HT_.out kk) (by decide) (by decide) (fun K hK => ?_) (fun K hK => ?_)
         ·skip
          refine goes_ Tryd.func23 kk rfl #[.agg #[.int .i64 ((rd_T33 l1 x8_2).f0), .slice A215_1 ((rd_T33 l1 x8_2).f1).length c215_1]] (by rfl) rfl rfl (by (try simp only [List.map_toArray, List.map_cons, List.map_nil]); first | done | rfl | (simp only [List.length_drop, List.length_take]; rfl)) ?_
          with_reducible refine (L2_zoneOf.calls k2 ((rd_T33 l1 x8_2).f0) _ _ ((rd_T33 l1 x8_2).f1) t216 t217 _ ?side1 ?side2 A22.out).mono ?_
          (case side1 => repeat (first | exact (Kd.C_below HR215_1.out HB.out) | (with_reducible refine Kd.C_alloc ?_ _) | (with_reducible refine Kd.C_drewN ?_ _) | (with_reducible refine Kd.C_drew ?_)))
          (case side2 => exact HC215_1.out)
          rintro e w49 ⟨v218, rfl, ho0, hb⟩
          refine ⟨_, rfl, ?_⟩
          have n0_ := am (Kd.R_elder' (by (with_reducible repeat (first | apply Kd.R_alloc | apply Kd.R_drewN | apply Kd.R_drew)); exact HO_214001.out) (Kd.R_base ho0) hb)
          have n1_ := am (Kd.R_lower (Kd.R_new' ho0 (Kd.R_lt (by (with_reducible repeat (first | apply Kd.R_alloc | apply Kd.R_drewN | apply Kd.R_drew)); exact HO_214001.out))) (below_size pw))
          have n2_ := bb BK207 hb
          have n3_ := bb BK213 hb
          have n4_ := am (below_step pw hb)
          clear HO_214001 BK207 BK213 HB
          revert n0_ n1_ n2_ n3_ n4_
          intro HO_214001 HO219 BK207 BK213 HB
          (try clear hb)
          (try clear hb2)
          (try clear hk)
          (try clear hi)
          (try clear ho0)
          obtain ⟨Ao50, co50, eo50⟩ := Kd.R_slice HO219.out
          (first | subst eo50 | (injection eo50 with f1_ f2_ f3_; have f4_ := f1_.symm; have f5_ := f3_.symm; clear f1_ f2_ f3_; subst f4_; subst f5_))
          refine hK.out _ _ ⟨bc BK213 0, bc BK213 1, ((HB.out.cell (World.block_lt_of_cell? w _ hw215_0)).trans hw215_0), ((HB.out.cell (World.block_lt_of_cell? w _ hw215_1)).trans hw215_1)⟩ (fun hHeld => ?_)
          clear hK K
          refine norm_ (a' := ?_) ?_ ?_
          rotate_left
          ·show Act.put _ (some 47) _ = _
           simp only [Act.put, List.setIfInBounds_toArray, List.set_cons_zero, List.set_cons_succ, i64_w, i32_w]
           rfl
          refine two_ (i := 6) (j := 10) (Ni := some 48) (Nj := some 9) #[true, true, true, true, true, true, true, false, false, false, false, false, false] #[true, true, true, true, true, true, false, false, false, false, true, false, false] rfl rfl rfl rfl (two_of HT_.out kk) (by decide) (by decide) (fun K hK => ?_) (fun K hK => ?_)
          ·skip
           refine goes_ Tryd.func30 kk rfl #[.agg #[.int .i64 x214000_2, .slice Ao47 x214001_2.length co47], .agg #[.int .i64 t216, .slice Ao50 t217.length co50]] (by rfl) rfl rfl (by (try simp only [List.map_toArray, List.map_cons, List.map_nil]); first | done | rfl | (simp only [List.length_drop, List.length_take]; rfl)) ?_
           with_reducible refine (zone_Widen.calls x214000_2 _ _ x214001_2 t216 _ _ t217 t220 t221 none _ ?side1 ?side2 ?side3 ?side4 A23.out (am (ErrAt.below hE2.out pw)).out (am (ErrAt.below hE3.out pw)).out).mono ?_
           (case side1 => repeat (first | exact (Kd.R_reads' HO_214001.out).2.2 | (with_reducible refine Kd.C_alloc ?_ _) | (with_reducible refine Kd.C_drewN ?_ _) | (with_reducible refine Kd.C_drew ?_)))
           (case side2 => exact (Kd.R_reads' HO_214001.out).2.1)
           (case side3 => repeat (first | exact (Kd.R_reads' HO219.out).2.2 | (with_reducible refine Kd.C_alloc ?_ _) | (with_reducible refine Kd.C_drewN ?_ _) | (with_reducible refine Kd.C_drew ?_)))
           (case side4 => exact (Kd.R_reads' HO219.out).2.1)
           rintro e w51 ⟨v222, rfl, ho0, hb⟩
           refine ⟨_, rfl, ?_⟩
           have n0_ := am (Kd.R_elder' (by (with_reducible repeat (first | apply Kd.R_alloc | apply Kd.R_drewN | apply Kd.R_drew)); exact HO_214001.out) (Kd.R_base ho0) hb)
           have n1_ := am (Kd.R_elder' (by (with_reducible repeat (first | apply Kd.R_alloc | apply Kd.R_drewN | apply Kd.R_drew)); exact HO219.out) (Kd.R_base ho0) hb)
           have n2_ := am (Kd.R_lower (Kd.R_new' (Kd.R_new' ho0 (Kd.R_lt (by (with_reducible repeat (first | apply Kd.R_alloc | apply Kd.R_drewN | apply Kd.R_drew)); exact HO_214001.out))) (Kd.R_lt (by (with_reducible repeat (first | apply Kd.R_alloc | apply Kd.R_drewN | apply Kd.R_drew)); exact HO219.out))) (below_size pw))
           have n3_ := bb BK207 hb
           have n4_ := bb BK213 hb
           have n5_ := am (below_step pw hb)
           clear HO_214001 HO219 BK207 BK213 HB
           revert n0_ n1_ n2_ n3_ n4_ n5_
           intro HO_214001 HO219 HO223 BK207 BK213 HB
           (try clear hb)
           (try clear hb2)
           (try clear hk)
           (try clear hi)
           (try clear ho0)
           (try simp only [errW_none, errW_some])
           refine hK.out _ _ ⟨bc BK213 0, bc BK213 1, ((HB.out.cell (World.block_lt_of_cell? w _ hw215_0)).trans hw215_0), ((HB.out.cell (World.block_lt_of_cell? w _ hw215_1)).trans hw215_1)⟩ (fun hHeld => ?_)
           clear hK K
           refine norm_ (a' := ?_) ?_ ?_
           rotate_left
           ·show Act.put _ (some 48) _ = _
            simp only [Act.put, List.setIfInBounds_toArray, List.set_cons_zero, List.set_cons_succ, i64_w, i32_w]
            rfl
           refine pure_ (i := 7) (N := some 41) (v := ?_) (a' := ?_) #[true, true, true, true, true, true, true, true, false, false, false, false, false] rfl rfl (any_of HT_.out kk) (fun _ _ _ h => h) (Or.inl ⟨by rfl, ?_⟩) ?_ ?_
           rotate_left
           ·intro w'
            go_simp
            with_reducible rfl
           rotate_left
           ·simp only [Act.put, List.setIfInBounds_toArray, List.set_cons_zero, List.set_cons_succ, i64_w, i32_w]
            rfl
           refine pure_ (i := 8) (N := some 49) (v := ?_) (a' := ?_) #[true, true, true, true, true, true, true, true, true, false, false, false, false] rfl rfl (any_of HT_.out kk) (fun _ _ _ h => h) (Or.inl ⟨by rfl, ?_⟩) ?_ ?_
           rotate_left
           ·intro w'
            go_simp
            with_reducible rfl
           rotate_left
           ·simp only [Act.put, List.setIfInBounds_toArray, List.set_cons_zero, List.set_cons_succ, i64_w, i32_w]
            rfl
           refine pure_ (i := 9) (N := some 50) (v := ?_) (a' := ?_) #[true, true, true, true, true, true, true, true, true, true, false, false, false] rfl rfl (any_of HT_.out kk) (fun _ _ _ h => h) (Or.inl ⟨by rfl, ?_⟩) ?_ ?_
           rotate_left
           ·intro w'
            go_simp
            with_reducible rfl
           rotate_left
           ·simp only [Act.put, List.setIfInBounds_toArray, List.set_cons_zero, List.set_cons_succ, i64_w, i32_w]
            rfl
           refine one_ (i := 10) (N := some 9) #[true, true, true, true, true, true, true, true, true, true, true, false, false] rfl rfl (one_of HT_.out kk) (by decide) (fun K hK => ?_)
           refine box_step ?hg (N := 9) ?hd (cs := #[.int .i64 0, .slice none 0 0]) (t := 37) ?hr ?_; (case hd => rfl); (case hg => rfl); (case hr => first | (go_simp; done) | (go_simp; rfl))
           intro gb225 hg w52 hbox hb
           have n0_ := am (Kd.R_below (by (with_reducible repeat (first | apply Kd.R_alloc | apply Kd.R_drewN | apply Kd.R_drew)); exact HO_214001.out) hb)
           have n1_ := am (Kd.R_below (by (with_reducible repeat (first | apply Kd.R_alloc | apply Kd.R_drewN | apply Kd.R_drew)); exact HO219.out) hb)
           have n2_ := am (Kd.R_below (by (with_reducible repeat (first | apply Kd.R_alloc | apply Kd.R_drewN | apply Kd.R_drew)); exact HO223.out) hb)
           have n3_ := bb BK207 hb
           have n4_ := bb BK213 hb
           have n5_ := am (below_step pw hb)
           have n6_ := am (hbox)
           have n7_ := am ((by rw [hg]; exact (below_size pw) : w.heap.size ≤ gb225))
           have n8_ := am ((by rw [hg]; exact (below_size pw) : w.heap.size ≤ gb225))
           have n9_ := am ((by rw [hg]; exact Nat.ne_of_lt (blk_lt pk) : gb207 ≠ gb225))
           have n10_ := am ((by rw [hg]; exact Nat.ne_of_gt (blk_lt pk) : gb225 ≠ gb207))
           have n11_ := am ((by rw [hg]; exact Nat.ne_of_lt (blk_lt pk) : gb213 ≠ gb225))
           have n12_ := am ((by rw [hg]; exact Nat.ne_of_gt (blk_lt pk) : gb225 ≠ gb213))
           clear HO_214001 HO219 HO223 BK207 BK213 HB
           revert n0_ n1_ n2_ n3_ n4_ n5_ n6_ n7_ n8_ n9_ n10_ n11_ n12_
           intro HO_214001 HO219 HO223 BK207 BK213 HB BK225 GW225 GE225 NB207_225 NB225_207 NB213_225 NB225_213
           clear hb hbox hg
           refine hK.out _ _ ⟨bc BK213 0, bc BK213 1, ((HB.out.cell (World.block_lt_of_cell? w _ hw215_0)).trans hw215_0), ((HB.out.cell (World.block_lt_of_cell? w _ hw215_1)).trans hw215_1)⟩ (fun hHeld => ?_)
           clear hK K
           refine norm_ (a' := ?_) ?_ ?_
           rotate_left
           ·show Act.put _ (some 9) _ = _
            simp only [Act.put, List.setIfInBounds_toArray, List.set_cons_zero, List.set_cons_succ, i64_w, i32_w]
            rfl
           exact norm_ (by simp only [putAll, Act.put, List.setIfInBounds_toArray, List.set_cons_zero, List.set_cons_succ, errW_none, errW_some]) (hCont (.slice Ao50 t217.length co50, v222, gb225) _ ⟨hHeld, (by (with_reducible repeat (first | apply Kd.R_alloc | apply Kd.R_drewN | apply Kd.R_drew)); exact Kd.R_mono HO219.out (fun _ hk => ⟨hk.2, hk.1.2⟩)), (by (with_reducible repeat (first | apply Kd.R_alloc | apply Kd.R_drewN | apply Kd.R_drew)); exact Kd.R_mono HO223.out (fun _ hk => ⟨hk.2, hk.1.2⟩)), (by (with_reducible repeat (first | apply Kd.R_alloc | apply Kd.R_drewN | apply Kd.R_drew)); exact Kd.R_mono HO_214001.out (fun _ hk => ⟨hk.1.2, hk.2⟩)), pk, pk, pk, GW225.out, GE225.out, NB207_225.out, NB225_207.out, NB213_225.out, NB225_213.out, pw⟩)
          skip
          refine box_step ?hg (N := 9) ?hd (cs := #[.int .i64 0, .slice none 0 0]) (t := 37) ?hr ?_; (case hd => rfl); (case hg => rfl); (case hr => first | (go_simp; done) | (go_simp; rfl))
          intro gb225 hg w50 hbox hb
          have n0_ := am (Kd.R_below (by (with_reducible repeat (first | apply Kd.R_alloc | apply Kd.R_drewN | apply Kd.R_drew)); exact HO_214001.out) hb)
          have n1_ := am (Kd.R_below (by (with_reducible repeat (first | apply Kd.R_alloc | apply Kd.R_drewN | apply Kd.R_drew)); exact HO219.out) hb)
          have n2_ := bb BK207 hb
          have n3_ := bb BK213 hb
          have n4_ := am (below_step pw hb)
          have n5_ := am (hbox)
          have n6_ := am ((by rw [hg]; exact (below_size pw) : w.heap.size ≤ gb225))
          have n7_ := am ((by rw [hg]; exact (below_size pw) : w.heap.size ≤ gb225))
          have n8_ := am ((by rw [hg]; exact Nat.ne_of_lt (blk_lt pk) : gb207 ≠ gb225))
          have n9_ := am ((by rw [hg]; exact Nat.ne_of_gt (blk_lt pk) : gb225 ≠ gb207))
          have n10_ := am ((by rw [hg]; exact Nat.ne_of_lt (blk_lt pk) : gb213 ≠ gb225))
          have n11_ := am ((by rw [hg]; exact Nat.ne_of_gt (blk_lt pk) : gb225 ≠ gb213))
          clear HO_214001 HO219 BK207 BK213 HB
          revert n0_ n1_ n2_ n3_ n4_ n5_ n6_ n7_ n8_ n9_ n10_ n11_
          intro HO_214001 HO219 BK207 BK213 HB BK225 GW225 GE225 NB207_225 NB225_207 NB213_225 NB225_213
          clear hb hbox hg
          obtain ⟨Ao51, co51, eo51⟩ := Kd.R_slice HO219.out
          (first | subst eo51 | (injection eo51 with f1_ f2_ f3_; have f4_ := f1_.symm; have f5_ := f3_.symm; clear f1_ f2_ f3_; subst f4_; subst f5_))
          refine hK.out _ _ ⟨bc BK213 0, bc BK213 1, ((HB.out.cell (World.block_lt_of_cell? w _ hw215_0)).trans hw215_0), ((HB.out.cell (World.block_lt_of_cell? w _ hw215_1)).trans hw215_1)⟩ (fun hHeld => ?_)
          clear hK K
          refine norm_ (a' := ?_) ?_ ?_
          rotate_left
          ·show Act.put _ (some 9) _ = _
           simp only [Act.put, List.setIfInBounds_toArray, List.set_cons_zero, List.set_cons_succ, i64_w, i32_w]
           rfl
          refine one_ (i := 6) (N := some 48) #[true, true, true, true, true, true, true, false, false, false, true, false, false] rfl rfl (one_of HT_.out kk) (by decide) (fun K hK => ?_)
          refine goes_ Tryd.func30 kk rfl #[.agg #[.int .i64 x214000_2, .slice Ao47 x214001_2.length co47], .agg #[.int .i64 t216, .slice Ao51 t217.length co51]] (by rfl) rfl rfl (by (try simp only [List.map_toArray, List.map_cons, List.map_nil]); first | done | rfl | (simp only [List.length_drop, List.length_take]; rfl)) ?_
          with_reducible refine (zone_Widen.calls x214000_2 _ _ x214001_2 t216 _ _ t217 t220 t221 none _ ?side1 ?side2 ?side3 ?side4 A23.out (am (ErrAt.below hE2.out pw)).out (am (ErrAt.below hE3.out pw)).out).mono ?_
          (case side1 => repeat (first | exact (Kd.R_reads' HO_214001.out).2.2 | (with_reducible refine Kd.C_alloc ?_ _) | (with_reducible refine Kd.C_drewN ?_ _) | (with_reducible refine Kd.C_drew ?_)))
          (case side2 => exact (Kd.R_reads' HO_214001.out).2.1)
          (case side3 => repeat (first | exact (Kd.R_reads' HO219.out).2.2 | (with_reducible refine Kd.C_alloc ?_ _) | (with_reducible refine Kd.C_drewN ?_ _) | (with_reducible refine Kd.C_drew ?_)))
          (case side4 => exact (Kd.R_reads' HO219.out).2.1)
          rintro e w52 ⟨v222, rfl, ho0, hb⟩
          refine ⟨_, rfl, ?_⟩
          have n0_ := am (Kd.R_elder' (by (with_reducible repeat (first | apply Kd.R_alloc | apply Kd.R_drewN | apply Kd.R_drew)); exact HO_214001.out) (Kd.R_base ho0) hb)
          have n1_ := am (Kd.R_elder' (by (with_reducible repeat (first | apply Kd.R_alloc | apply Kd.R_drewN | apply Kd.R_drew)); exact HO219.out) (Kd.R_base ho0) hb)
          have n2_ := am (Kd.R_lower (Kd.R_new' (Kd.R_new' ho0 (Kd.R_lt (by (with_reducible repeat (first | apply Kd.R_alloc | apply Kd.R_drewN | apply Kd.R_drew)); exact HO_214001.out))) (Kd.R_lt (by (with_reducible repeat (first | apply Kd.R_alloc | apply Kd.R_drewN | apply Kd.R_drew)); exact HO219.out))) (below_size pw))
          have n3_ := bb BK207 hb
          have n4_ := bb BK213 hb
          have n5_ := bb BK225 hb
          have n6_ := am (below_step pw hb)
          clear HO_214001 HO219 BK207 BK213 BK225 HB
          revert n0_ n1_ n2_ n3_ n4_ n5_ n6_
          intro HO_214001 HO219 HO223 BK207 BK213 BK225 HB
          (try clear hb)
          (try clear hb2)
          (try clear hk)
          (try clear hi)
          (try clear ho0)
          (try simp only [errW_none, errW_some])
          refine hK.out _ _ ⟨bc BK213 0, bc BK213 1, ((HB.out.cell (World.block_lt_of_cell? w _ hw215_0)).trans hw215_0), ((HB.out.cell (World.block_lt_of_cell? w _ hw215_1)).trans hw215_1)⟩ (fun hHeld => ?_)
          clear hK K
          refine norm_ (a' := ?_) ?_ ?_
          rotate_left
          ·show Act.put _ (some 48) _ = _
           simp only [Act.put, List.setIfInBounds_toArray, List.set_cons_zero, List.set_cons_succ, i64_w, i32_w]
           rfl
          refine pure_ (i := 7) (N := some 41) (v := ?_) (a' := ?_) #[true, true, true, true, true, true, true, true, false, false, true, false, false] rfl rfl (any_of HT_.out kk) (fun _ _ _ h => h) (Or.inl ⟨by rfl, ?_⟩) ?_ ?_
          rotate_left
          ·intro w'
           go_simp
           with_reducible rfl
          rotate_left
          ·simp only [Act.put, List.setIfInBounds_toArray, List.set_cons_zero, List.set_cons_succ, i64_w, i32_w]
           rfl
          refine pure_ (i := 8) (N := some 49) (v := ?_) (a' := ?_) #[true, true, true, true, true, true, true, true, true, false, true, false, false] rfl rfl (any_of HT_.out kk) (fun _ _ _ h => h) (Or.inl ⟨by rfl, ?_⟩) ?_ ?_
          rotate_left
          ·intro w'
           go_simp
           with_reducible rfl
          rotate_left
          ·simp only [Act.put, List.setIfInBounds_toArray, List.set_cons_zero, List.set_cons_succ, i64_w, i32_w]
           rfl
          refine pure_ (i := 9) (N := some 50) (v := ?_) (a' := ?_) #[true, true, true, true, true, true, true, true, true, true, true, false, false] rfl rfl (any_of HT_.out kk) (fun _ _ _ h => h) (Or.inl ⟨by rfl, ?_⟩) ?_ ?_
          rotate_left
          ·intro w'
           go_simp
           with_reducible rfl
          rotate_left
          ·simp only [Act.put, List.setIfInBounds_toArray, List.set_cons_zero, List.set_cons_succ, i64_w, i32_w]
           rfl
          exact norm_ (by simp only [putAll, Act.put, List.setIfInBounds_toArray, List.set_cons_zero, List.set_cons_succ, errW_none, errW_some]) (hCont (.slice Ao51 t217.length co51, v222, gb225) _ ⟨hHeld, (by (with_reducible repeat (first | apply Kd.R_alloc | apply Kd.R_drewN | apply Kd.R_drew)); exact Kd.R_mono HO219.out (fun _ hk => ⟨hk.2, hk.1.2⟩)), (by (with_reducible repeat (first | apply Kd.R_alloc | apply Kd.R_drewN | apply Kd.R_drew)); exact Kd.R_mono HO223.out (fun _ hk => ⟨hk.2, hk.1.2⟩)), (by (with_reducible repeat (first | apply Kd.R_alloc | apply Kd.R_drewN | apply Kd.R_drew)); exact Kd.R_mono HO_214001.out (fun _ hk => ⟨hk.1.2, hk.2⟩)), pk, pk, pk, GW225.out, GE225.out, NB207_225.out, NB225_207.out, NB213_225.out, NB225_213.out, pw⟩)
         skip
         refine box_step ?hg (N := 9) ?hd (cs := #[.int .i64 0, .slice none 0 0]) (t := 37) ?hr ?_; (case hd => rfl); (case hg => rfl); (case hr => first | (go_simp; done) | (go_simp; rfl))
         intro gb225 hg w49 hbox hb
         have n0_ := am (Kd.R_below (by (with_reducible repeat (first | apply Kd.R_alloc | apply Kd.R_drewN | apply Kd.R_drew)); exact HO_214001.out) hb)
         have n1_ := bb BK207 hb
         have n2_ := bb BK213 hb
         have n3_ := am (below_step pw hb)
         have n4_ := am (hbox)
         have n5_ := am ((by rw [hg]; exact (below_size pw) : w.heap.size ≤ gb225))
         have n6_ := am ((by rw [hg]; exact (below_size pw) : w.heap.size ≤ gb225))
         have n7_ := am ((by rw [hg]; exact Nat.ne_of_lt (blk_lt pk) : gb207 ≠ gb225))
         have n8_ := am ((by rw [hg]; exact Nat.ne_of_gt (blk_lt pk) : gb225 ≠ gb207))
         have n9_ := am ((by rw [hg]; exact Nat.ne_of_lt (blk_lt pk) : gb213 ≠ gb225))
         have n10_ := am ((by rw [hg]; exact Nat.ne_of_gt (blk_lt pk) : gb225 ≠ gb213))
         clear HO_214001 BK207 BK213 HB
         revert n0_ n1_ n2_ n3_ n4_ n5_ n6_ n7_ n8_ n9_ n10_
         intro HO_214001 BK207 BK213 HB BK225 GW225 GE225 NB207_225 NB225_207 NB213_225 NB225_213
         clear hb hbox hg
         refine hK.out _ _ ⟨bc BK213 0, bc BK213 1, ((HB.out.cell (World.block_lt_of_cell? w _ hw215_0)).trans hw215_0), ((HB.out.cell (World.block_lt_of_cell? w _ hw215_1)).trans hw215_1)⟩ (fun hHeld => ?_)
         clear hK K
         refine norm_ (a' := ?_) ?_ ?_
         rotate_left
         ·show Act.put _ (some 9) _ = _
          simp only [Act.put, List.setIfInBounds_toArray, List.set_cons_zero, List.set_cons_succ, i64_w, i32_w]
          rfl
         refine one_ (i := 5) (N := some 47) #[true, true, true, true, true, true, false, false, false, false, true, false, false] rfl rfl (one_of HT_.out kk) (by decide) (fun K hK => ?_)
         refine goes_ Tryd.func23 kk rfl #[.agg #[.int .i64 ((rd_T33 l1 x8_2).f0), .slice A215_1 ((rd_T33 l1 x8_2).f1).length c215_1]] (by rfl) rfl rfl (by (try simp only [List.map_toArray, List.map_cons, List.map_nil]); first | done | rfl | (simp only [List.length_drop, List.length_take]; rfl)) ?_
         with_reducible refine (L2_zoneOf.calls k2 ((rd_T33 l1 x8_2).f0) _ _ ((rd_T33 l1 x8_2).f1) t216 t217 _ ?side1 ?side2 A22.out).mono ?_
         (case side1 => repeat (first | exact (Kd.C_below HR215_1.out HB.out) | (with_reducible refine Kd.C_alloc ?_ _) | (with_reducible refine Kd.C_drewN ?_ _) | (with_reducible refine Kd.C_drew ?_)))
         (case side2 => exact HC215_1.out)
         rintro e w50 ⟨v218, rfl, ho0, hb⟩
         refine ⟨_, rfl, ?_⟩
         have n0_ := am (Kd.R_elder' (by (with_reducible repeat (first | apply Kd.R_alloc | apply Kd.R_drewN | apply Kd.R_drew)); exact HO_214001.out) (Kd.R_base ho0) hb)
         have n1_ := am (Kd.R_lower (Kd.R_new' ho0 (Kd.R_lt (by (with_reducible repeat (first | apply Kd.R_alloc | apply Kd.R_drewN | apply Kd.R_drew)); exact HO_214001.out))) (below_size pw))
         have n2_ := bb BK207 hb
         have n3_ := bb BK213 hb
         have n4_ := bb BK225 hb
         have n5_ := am (below_step pw hb)
         clear HO_214001 BK207 BK213 BK225 HB
         revert n0_ n1_ n2_ n3_ n4_ n5_
         intro HO_214001 HO219 BK207 BK213 BK225 HB
         (try clear hb)
         (try clear hb2)
         (try clear hk)
         (try clear hi)
         (try clear ho0)
         obtain ⟨Ao51, co51, eo51⟩ := Kd.R_slice HO219.out
         (first | subst eo51 | (injection eo51 with f1_ f2_ f3_; have f4_ := f1_.symm; have f5_ := f3_.symm; clear f1_ f2_ f3_; subst f4_; subst f5_))
         refine hK.out _ _ ⟨bc BK213 0, bc BK213 1, ((HB.out.cell (World.block_lt_of_cell? w _ hw215_0)).trans hw215_0), ((HB.out.cell (World.block_lt_of_cell? w _ hw215_1)).trans hw215_1)⟩ (fun hHeld => ?_)
         clear hK K
         refine norm_ (a' := ?_) ?_ ?_
         rotate_left
         ·show Act.put _ (some 47) _ = _
          simp only [Act.put, List.setIfInBounds_toArray, List.set_cons_zero, List.set_cons_succ, i64_w, i32_w]
          rfl
         refine one_ (i := 6) (N := some 48) #[true, true, true, true, true, true, true, false, false, false, true, false, false] rfl rfl (one_of HT_.out kk) (by decide) (fun K hK => ?_)
         refine goes_ Tryd.func30 kk rfl #[.agg #[.int .i64 x214000_2, .slice Ao47 x214001_2.length co47], .agg #[.int .i64 t216, .slice Ao51 t217.length co51]] (by rfl) rfl rfl (by (try simp only [List.map_toArray, List.map_cons, List.map_nil]); first | done | rfl | (simp only [List.length_drop, List.length_take]; rfl)) ?_
         with_reducible refine (zone_Widen.calls x214000_2 _ _ x214001_2 t216 _ _ t217 t220 t221 none _ ?side1 ?side2 ?side3 ?side4 A23.out (am (ErrAt.below hE2.out pw)).out (am (ErrAt.below hE3.out pw)).out).mono ?_
         (case side1 => repeat (first | exact (Kd.R_reads' HO_214001.out).2.2 | (with_reducible refine Kd.C_alloc ?_ _) | (with_reducible refine Kd.C_drewN ?_ _) | (with_reducible refine Kd.C_drew ?_)))
         (case side2 => exact (Kd.R_reads' HO_214001.out).2.1)
         (case side3 => repeat (first | exact (Kd.R_reads' HO219.out).2.2 | (with_reducible refine Kd.C_alloc ?_ _) | (with_reducible refine Kd.C_drewN ?_ _) | (with_reducible refine Kd.C_drew ?_)))
         (case side4 => exact (Kd.R_reads' HO219.out).2.1)
         rintro e w52 ⟨v222, rfl, ho0, hb⟩
         refine ⟨_, rfl, ?_⟩
         have n0_ := am (Kd.R_elder' (by (with_reducible repeat (first | apply Kd.R_alloc | apply Kd.R_drewN | apply Kd.R_drew)); exact HO_214001.out) (Kd.R_base ho0) hb)
         have n1_ := am (Kd.R_elder' (by (with_reducible repeat (first | apply Kd.R_alloc | apply Kd.R_drewN | apply Kd.R_drew)); exact HO219.out) (Kd.R_base ho0) hb)
         have n2_ := am (Kd.R_lower (Kd.R_new' (Kd.R_new' ho0 (Kd.R_lt (by (with_reducible repeat (first | apply Kd.R_alloc | apply Kd.R_drewN | apply Kd.R_drew)); exact HO_214001.out))) (Kd.R_lt (by (with_reducible repeat (first | apply Kd.R_alloc | apply Kd.R_drewN | apply Kd.R_drew)); exact HO219.out))) (below_size pw))
         have n3_ := bb BK207 hb
         have n4_ := bb BK213 hb
         have n5_ := bb BK225 hb
         have n6_ := am (below_step pw hb)
         clear HO_214001 HO219 BK207 BK213 BK225 HB
         revert n0_ n1_ n2_ n3_ n4_ n5_ n6_
         intro HO_214001 HO219 HO223 BK207 BK213 BK225 HB
         (try clear hb)
         (try clear hb2)
         (try clear hk)
         (try clear hi)
         (try clear ho0)
         (try simp only [errW_none, errW_some])
         refine hK.out _ _ ⟨bc BK213 0, bc BK213 1, ((HB.out.cell (World.block_lt_of_cell? w _ hw215_0)).trans hw215_0), ((HB.out.cell (World.block_lt_of_cell? w _ hw215_1)).trans hw215_1)⟩ (fun hHeld => ?_)
         clear hK K
         refine norm_ (a' := ?_) ?_ ?_
         rotate_left
         ·show Act.put _ (some 48) _ = _
          simp only [Act.put, List.setIfInBounds_toArray, List.set_cons_zero, List.set_cons_succ, i64_w, i32_w]
          rfl
         refine pure_ (i := 7) (N := some 41) (v := ?_) (a' := ?_) #[true, true, true, true, true, true, true, true, false, false, true, false, false] rfl rfl (any_of HT_.out kk) (fun _ _ _ h => h) (Or.inl ⟨by rfl, ?_⟩) ?_ ?_
         rotate_left
         ·intro w'
          go_simp
          with_reducible rfl
         rotate_left
         ·simp only [Act.put, List.setIfInBounds_toArray, List.set_cons_zero, List.set_cons_succ, i64_w, i32_w]
          rfl
         refine pure_ (i := 8) (N := some 49) (v := ?_) (a' := ?_) #[true, true, true, true, true, true, true, true, true, false, true, false, false] rfl rfl (any_of HT_.out kk) (fun _ _ _ h => h) (Or.inl ⟨by rfl, ?_⟩) ?_ ?_
         rotate_left
         ·intro w'
          go_simp
          with_reducible rfl
         rotate_left
         ·simp only [Act.put, List.setIfInBounds_toArray, List.set_cons_zero, List.set_cons_succ, i64_w, i32_w]
          rfl
         refine pure_ (i := 9) (N := some 50) (v := ?_) (a' := ?_) #[true, true, true, true, true, true, true, true, true, true, true, false, false] rfl rfl (any_of HT_.out kk) (fun _ _ _ h => h) (Or.inl ⟨by rfl, ?_⟩) ?_ ?_
         rotate_left
         ·intro w'
          go_simp
          with_reducible rfl
         rotate_left
         ·simp only [Act.put, List.setIfInBounds_toArray, List.set_cons_zero, List.set_cons_succ, i64_w, i32_w]
          rfl
         exact norm_ (by simp only [putAll, Act.put, List.setIfInBounds_toArray, List.set_cons_zero, List.set_cons_succ, errW_none, errW_some]) (hCont (.slice Ao51 t217.length co51, v222, gb225) _ ⟨hHeld, (by (with_reducible repeat (first | apply Kd.R_alloc | apply Kd.R_drewN | apply Kd.R_drew)); exact Kd.R_mono HO219.out (fun _ hk => ⟨hk.2, hk.1.2⟩)), (by (with_reducible repeat (first | apply Kd.R_alloc | apply Kd.R_drewN | apply Kd.R_drew)); exact Kd.R_mono HO223.out (fun _ hk => ⟨hk.2, hk.1.2⟩)), (by (with_reducible repeat (first | apply Kd.R_alloc | apply Kd.R_drewN | apply Kd.R_drew)); exact Kd.R_mono HO_214001.out (fun _ hk => ⟨hk.1.2, hk.2⟩)), pk, pk, pk, GW225.out, GE225.out, NB207_225.out, NB225_207.out, NB213_225.out, NB225_213.out, pw⟩)
        rintro ⟨v218, v222, gb225⟩ w53 ⟨hS_, h0_, h1_, h2_, h3_, h4_, h5_, h6_, h7_, h8_, h9_, h10_, h11_, h12_⟩
        have n0_ : Aside0 (Kd.R k42 42 w53 w.heap.size (fun k_ => some k_ ≠ (v222 : Value).ownBlock ∧ some k_ ≠ (.slice Ao47 x214001_2.length co47 : Value).ownBlock) v218 t217) := ⟨h0_⟩
        have n1_ : Aside0 (Kd.R k42 42 w53 w.heap.size (fun k_ => some k_ ≠ (v218 : Value).ownBlock ∧ some k_ ≠ (.slice Ao47 x214001_2.length co47 : Value).ownBlock) v222 t221) := ⟨h1_⟩
        have n2_ : Aside0 (Kd.R k42 42 w53 w.heap.size (fun k_ => some k_ ≠ (v218 : Value).ownBlock ∧ some k_ ≠ (v222 : Value).ownBlock) (.slice Ao47 x214001_2.length co47) x214001_2) := ⟨h2_⟩
        have n3_ : Aside0 (w53.heap[gb207]? = some (.cells #[.int .i64 a0_0, .slice A0_1 l0_1.length c0_1] 33 (0, 0))) := ⟨h3_⟩
        have n4_ : Aside0 (w53.heap[gb213]? = some (.cells #[.int .i64 x214000_2, .slice Ao47 x214001_2.length co47] 37 (0, 0))) := ⟨h4_⟩
        have n5_ : Aside0 (w53.heap[gb225]? = some (.cells #[.int .i64 0, .slice none 0 0] 37 (0, 0))) := ⟨h5_⟩
        have n6_ : Aside0 (w.heap.size ≤ gb225) := ⟨h6_⟩
        have n7_ : Aside0 (w.heap.size ≤ gb225) := ⟨h7_⟩
        have n8_ : Aside0 (gb207 ≠ gb225) := ⟨h8_⟩
        have n9_ : Aside0 (gb225 ≠ gb207) := ⟨h9_⟩
        have n10_ : Aside0 (gb213 ≠ gb225) := ⟨h10_⟩
        have n11_ : Aside0 (gb225 ≠ gb213) := ⟨h11_⟩
        have n12_ : Aside0 (Below w.heap.size w w53) := ⟨h12_⟩
        clear HO_214001
        clear BK207
        clear BK213
        clear HB
        clear h0_ h1_ h2_ h3_ h4_ h5_ h6_ h7_ h8_ h9_ h10_ h11_ h12_
        revert n0_ n1_ n2_ n3_ n4_ n5_ n6_ n7_ n8_ n9_ n10_ n11_ n12_
        intro HO219 HO223 HO_214001 BK207 BK213 BK225 GW225 GE225 NB207_225 NB225_207 NB213_225 NB225_213 HB
        have hHeld : w53.cell? ⟨gb213, 0, none⟩ = some (.int .i64 x214000_2) ∧ w53.cell? ⟨gb213, 1, none⟩ = some (.slice Ao47 x214001_2.length co47) ∧ w53.cell? (ad214.add ((x8_2).toNat * 2)) = some (.int .i64 ((rd_T33 l1 x8_2).f0)) ∧ w53.cell? ⟨(ad214.add ((x8_2).toNat * 2)).block, (ad214.add ((x8_2).toNat * 2)).off + 1, none⟩ = some (.slice A215_1 ((rd_T33 l1 x8_2).f1).length c215_1) := hS_
        obtain ⟨Ao55, co55, eo55⟩ := Kd.R_slice HO223.out
        (first | subst eo55 | (injection eo55 with f1_ f2_ f3_; have f4_ := f1_.symm; have f5_ := f3_.symm; clear f1_ f2_ f3_; subst f4_; subst f5_))
        refine norm_ (a' := ?_) ?_ ?_
        rotate_left
        ·simp only [putAll, Act.put, List.setIfInBounds_toArray, List.set_cons_zero, List.set_cons_succ]
         rfl
        refine one_ (i := 11) (N := none) #[true, true, true, true, true, true, true, true, true, true, true, true, false] rfl rfl (one_of HT_.out kk) (by decide) (fun K hK => ?_)
        have hs54 : w53.cell? ⟨gb225, 0, none⟩ = some (.int .i64 0) := bc BK225 0
        have hfs54 := blk_frozen BK225.out 0
        have hns54_0 := NB207_225.out
        have hns54_1 := NB213_225.out
        have hms54_0 := NB225_207.out
        have hms54_1 := NB225_213.out
        have hs56 : w53.cell? ⟨gb225, 1, none⟩ = some (.slice none 0 0) := bc BK225 1
        have hfs56 := blk_frozen BK225.out 1
        have hns56_0 := NB207_225.out
        have hns56_1 := NB213_225.out
        have hms56_0 := NB225_207.out
        have hms56_1 := NB225_213.out
        refine skip_ (w1 := ?_) (by rfl) rfl ?_ ?_
        rotate_left
        ·go_simp
         rfl
        refine hK.out _ _ ⟨((cell_far (p := ⟨gb225, _, none⟩) NB213_225.out _).trans (((cell_far (p := ⟨gb225, _, none⟩) NB213_225.out _).trans (hHeld.1)))), ((cell_far (p := ⟨gb225, _, none⟩) NB213_225.out _).trans (((cell_far (p := ⟨gb225, _, none⟩) NB213_225.out _).trans (hHeld.2.1)))), ((cell_far (p := ⟨gb225, _, none⟩) (by first | exact Nat.ne_of_lt (Nat.lt_of_lt_of_le (by have := World.block_lt_of_cell? _ _ hw215_0; first | rwa [add_block] at this | exact this) GW225.out) | (rw [add_block]; exact Nat.ne_of_lt (Nat.lt_of_lt_of_le (by have := World.block_lt_of_cell? _ _ hw215_0; first | rwa [add_block] at this | exact this) GW225.out)) | (show (Addr.add _ _).block ≠ _; rw [add_block]; exact Nat.ne_of_lt (Nat.lt_of_lt_of_le (by have := World.block_lt_of_cell? _ _ hw215_0; first | rwa [add_block] at this | exact this) GW225.out)) | (dsimp only; exact Nat.ne_of_lt (Nat.lt_of_lt_of_le (by have := World.block_lt_of_cell? _ _ hw215_0; first | rwa [add_block] at this | exact this) GW225.out))) _).trans (((cell_far (p := ⟨gb225, _, none⟩) (by first | exact Nat.ne_of_lt (Nat.lt_of_lt_of_le (by have := World.block_lt_of_cell? _ _ hw215_0; first | rwa [add_block] at this | exact this) GW225.out) | (rw [add_block]; exact Nat.ne_of_lt (Nat.lt_of_lt_of_le (by have := World.block_lt_of_cell? _ _ hw215_0; first | rwa [add_block] at this | exact this) GW225.out)) | (show (Addr.add _ _).block ≠ _; rw [add_block]; exact Nat.ne_of_lt (Nat.lt_of_lt_of_le (by have := World.block_lt_of_cell? _ _ hw215_0; first | rwa [add_block] at this | exact this) GW225.out)) | (dsimp only; exact Nat.ne_of_lt (Nat.lt_of_lt_of_le (by have := World.block_lt_of_cell? _ _ hw215_0; first | rwa [add_block] at this | exact this) GW225.out))) _).trans (hHeld.2.2.1)))), ((cell_far (p := ⟨gb225, _, none⟩) (by first | exact Nat.ne_of_lt (Nat.lt_of_lt_of_le (by have := World.block_lt_of_cell? _ _ hw215_1; first | rwa [add_block] at this | exact this) GW225.out) | (rw [add_block]; exact Nat.ne_of_lt (Nat.lt_of_lt_of_le (by have := World.block_lt_of_cell? _ _ hw215_1; first | rwa [add_block] at this | exact this) GW225.out)) | (show (Addr.add _ _).block ≠ _; rw [add_block]; exact Nat.ne_of_lt (Nat.lt_of_lt_of_le (by have := World.block_lt_of_cell? _ _ hw215_1; first | rwa [add_block] at this | exact this) GW225.out)) | (dsimp only; exact Nat.ne_of_lt (Nat.lt_of_lt_of_le (by have := World.block_lt_of_cell? _ _ hw215_1; first | rwa [add_block] at this | exact this) GW225.out))) _).trans (((cell_far (p := ⟨gb225, _, none⟩) (by first | exact Nat.ne_of_lt (Nat.lt_of_lt_of_le (by have := World.block_lt_of_cell? _ _ hw215_1; first | rwa [add_block] at this | exact this) GW225.out) | (rw [add_block]; exact Nat.ne_of_lt (Nat.lt_of_lt_of_le (by have := World.block_lt_of_cell? _ _ hw215_1; first | rwa [add_block] at this | exact this) GW225.out)) | (show (Addr.add _ _).block ≠ _; rw [add_block]; exact Nat.ne_of_lt (Nat.lt_of_lt_of_le (by have := World.block_lt_of_cell? _ _ hw215_1; first | rwa [add_block] at this | exact this) GW225.out)) | (dsimp only; exact Nat.ne_of_lt (Nat.lt_of_lt_of_le (by have := World.block_lt_of_cell? _ _ hw215_1; first | rwa [add_block] at this | exact this) GW225.out))) _).trans (hHeld.2.2.2))))⟩ (fun hHeld => ?_)
        clear hK K
        refine pure_ (i := 12) (N := some 10) (v := ?_) (a' := ?_) #[true, true, true, true, true, true, true, true, true, true, true, true, true] rfl rfl (any_of HT_.out kk) (fun _ _ _ h => h) (Or.inl ⟨by rfl, ?_⟩) ?_ ?_
        rotate_left
        ·intro w'
         go_simp
         with_reducible rfl
        rotate_left
        ·simp only [Act.put, List.setIfInBounds_toArray, List.set_cons_zero, List.set_cons_succ, i64_w, i32_w]
         rfl
        refine done_ (done_of HT_.out kk) ?_
        (try simp only [errW_none, errW_some])
        try go_wp2
        have n0_ : Aside0 (Kd.R k42 42 ((w53.setCell ⟨gb225, 0, none⟩ (.int .i64 t220)).setCell ⟨gb225, 1, none⟩ (.slice Ao55 t221.length co55)) w.heap.size (fun k_ => some k_ ≠ (v218 : Value).ownBlock ∧ some k_ ≠ (.slice Ao55 t221.length co55 : Value).ownBlock) (.slice Ao47 x214001_2.length co47) x214001_2) := ⟨by (with_reducible repeat (first | apply Kd.R_alloc | apply Kd.R_drewN | apply Kd.R_drew)); exact Kd.R_mono (Kd.R_far (p := ⟨gb225, 1, none⟩) (Kd.R_far (p := ⟨gb225, 0, none⟩) (Kd.R_types HO_214001.out BK225.out (by decide)) (fun _ hk => hk.2) (.int .i64 t220)) (fun _ hk => hk.2) (.slice Ao55 t221.length co55)) (fun _ hk => ⟨hk.1.1, hk.1.2⟩)⟩
        have n1_ : Aside0 (Kd.R k42 42 ((w53.setCell ⟨gb225, 0, none⟩ (.int .i64 t220)).setCell ⟨gb225, 1, none⟩ (.slice Ao55 t221.length co55)) w.heap.size (fun k_ => some k_ ≠ (.slice Ao47 x214001_2.length co47 : Value).ownBlock ∧ some k_ ≠ (.slice Ao55 t221.length co55 : Value).ownBlock) v218 t217) := ⟨by (with_reducible repeat (first | apply Kd.R_alloc | apply Kd.R_drewN | apply Kd.R_drew)); exact Kd.R_mono (Kd.R_far (p := ⟨gb225, 1, none⟩) (Kd.R_far (p := ⟨gb225, 0, none⟩) (Kd.R_types HO219.out BK225.out (by decide)) (fun _ hk => hk.2) (.int .i64 t220)) (fun _ hk => hk.2) (.slice Ao55 t221.length co55)) (fun _ hk => ⟨hk.1.2, hk.1.1⟩)⟩
        have n2_ : Aside0 (Kd.R k42 42 ((w53.setCell ⟨gb225, 0, none⟩ (.int .i64 t220)).setCell ⟨gb225, 1, none⟩ (.slice Ao55 t221.length co55)) w.heap.size (fun k_ => some k_ ≠ (.slice Ao47 x214001_2.length co47 : Value).ownBlock ∧ some k_ ≠ (v218 : Value).ownBlock) (.slice Ao55 t221.length co55) t221) := ⟨by (with_reducible repeat (first | apply Kd.R_alloc | apply Kd.R_drewN | apply Kd.R_drew)); exact Kd.R_mono (Kd.R_far (p := ⟨gb225, 1, none⟩) (Kd.R_far (p := ⟨gb225, 0, none⟩) (Kd.R_types HO223.out BK225.out (by decide)) (fun _ hk => hk.2) (.int .i64 t220)) (fun _ hk => hk.2) (.slice Ao55 t221.length co55)) (fun _ hk => ⟨hk.1.2, hk.1.1⟩)⟩
        have n3_ : Aside0 (((w53.setCell ⟨gb225, 0, none⟩ (.int .i64 t220)).setCell ⟨gb225, 1, none⟩ (.slice Ao55 t221.length co55)).heap[gb207]? = some (.cells #[.int .i64 a0_0, .slice A0_1 l0_1.length c0_1] 33 (0, 0))) := ⟨by (with_reducible repeat (first | refine blk_drewN ?_ _ | refine blk_drew ?_ | refine blk_alloc ?_ _)); refine blk_far ?_ NB207_225.out _; (with_reducible repeat (first | refine blk_drewN ?_ _ | refine blk_drew ?_ | refine blk_alloc ?_ _)); refine blk_far ?_ NB207_225.out _; (with_reducible repeat (first | refine blk_drewN ?_ _ | refine blk_drew ?_ | refine blk_alloc ?_ _)); exact BK207.out⟩
        have n4_ : Aside0 (((w53.setCell ⟨gb225, 0, none⟩ (.int .i64 t220)).setCell ⟨gb225, 1, none⟩ (.slice Ao55 t221.length co55)).heap[gb213]? = some (.cells #[.int .i64 x214000_2, .slice Ao47 x214001_2.length co47] 37 (0, 0))) := ⟨by (with_reducible repeat (first | refine blk_drewN ?_ _ | refine blk_drew ?_ | refine blk_alloc ?_ _)); refine blk_far ?_ NB213_225.out _; (with_reducible repeat (first | refine blk_drewN ?_ _ | refine blk_drew ?_ | refine blk_alloc ?_ _)); refine blk_far ?_ NB213_225.out _; (with_reducible repeat (first | refine blk_drewN ?_ _ | refine blk_drew ?_ | refine blk_alloc ?_ _)); exact BK213.out⟩
        have n5_ : Aside0 (((w53.setCell ⟨gb225, 0, none⟩ (.int .i64 t220)).setCell ⟨gb225, 1, none⟩ (.slice Ao55 t221.length co55)).heap[gb225]? = some (.cells #[.int .i64 t220, .slice Ao55 t221.length co55] 37 (0, 0))) := ⟨by (with_reducible repeat (first | refine blk_drewN ?_ _ | refine blk_drew ?_ | refine blk_alloc ?_ _)); refine blk_put (cs := #[.int .i64 t220, .slice none 0 0]) ?_ 1 _ rfl; (with_reducible repeat (first | refine blk_drewN ?_ _ | refine blk_drew ?_ | refine blk_alloc ?_ _)); refine blk_put (cs := #[.int .i64 0, .slice none 0 0]) ?_ 0 _ rfl; (with_reducible repeat (first | refine blk_drewN ?_ _ | refine blk_drew ?_ | refine blk_alloc ?_ _)); exact BK225.out⟩
        have n6_ : Aside0 (Below w.heap.size w ((w53.setCell ⟨gb225, 0, none⟩ (.int .i64 t220)).setCell ⟨gb225, 1, none⟩ (.slice Ao55 t221.length co55))) := ⟨pw⟩
        (try clear HO_214001)
        (try clear HO219)
        (try clear HO223)
        (try clear BK207)
        (try clear BK213)
        (try clear BK225)
        (try clear HB)
        generalize ((w53.setCell ⟨gb225, 0, none⟩ (.int .i64 t220)).setCell ⟨gb225, 1, none⟩ (.slice Ao55 t221.length co55)) = w57 at n0_ n1_ n2_ n3_ n4_ n5_ n6_ ⊢
        revert n0_ n1_ n2_ n3_ n4_ n5_ n6_
        intro HO_214001 HO219 HO223 BK207 BK213 BK225 HB
        have n0_ := am (Kd.R_drew HO_214001.out)
        have n1_ := am (Kd.R_drew HO219.out)
        have n2_ := am (Kd.R_drew HO223.out)
        have n3_ := am (blk_drew BK207.out)
        have n4_ := am (blk_drew BK213.out)
        have n5_ := am (blk_drew BK225.out)
        have n6_ := am (below_drew1 HB.out)
        clear HO_214001 HO219 HO223 BK207 BK213 BK225 HB
        revert n0_ n1_ n2_ n3_ n4_ n5_ n6_
        intro HO_214001 HO219 HO223 BK207 BK213 BK225 HB
        refine start_ (n := 5) (S := fun w' => w'.cell? ⟨gb225, 0, none⟩ = some (.int .i64 t220) ∧ w'.cell? ⟨gb225, 1, none⟩ = some (.slice Ao55 t221.length co55) ∧ w'.cell? ⟨gb213, 0, none⟩ = some (.int .i64 x214000_2) ∧ w'.cell? ⟨gb213, 1, none⟩ = some (.slice Ao47 x214001_2.length co47)) (ds := []) #[false, false, false, false, false] kk rfl rfl ⟨bc BK225 0, bc BK225 1, bc BK213 0, bc BK213 1⟩ (fun hHeld => ?_)
        generalize w57.drew = w58 at HO_214001 HO219 HO223 BK207 BK213 BK225 HB hHeld ⊢
        refine take_ (i := 0) (N := some 53) (v := ?_) (a' := ?_) #[true, false, false, false, false] rfl rfl kk (fun _ _ _ h => h) (Or.inl ⟨by rfl, ?_⟩) hHeld ?_ ?_
        rotate_left
        ·rintro w' ⟨s0, s1, s2, s3⟩
         go_simp
         with_reducible rfl
        rotate_left
        ·simp only [Act.put, List.setIfInBounds_toArray, List.set_cons_zero, List.set_cons_succ, i64_w, i32_w]
         rfl
        refine take_ (i := 1) (N := some 54) (v := ?_) (a' := ?_) #[true, true, false, false, false] rfl rfl kk (fun _ _ _ h => h) (Or.inl ⟨by rfl, ?_⟩) hHeld ?_ ?_
        rotate_left
        ·rintro w' ⟨s0, s1, s2, s3⟩
         go_simp
         with_reducible rfl
        rotate_left
        ·simp only [Act.put, List.setIfInBounds_toArray, List.set_cons_zero, List.set_cons_succ, i64_w, i32_w]
         rfl
        refine one_ (i := 2) (N := some 55) #[true, true, true, false, false] rfl rfl kk (by decide) (fun K hK => ?_)
        refine goes_ Tryd.func32 kk rfl #[.agg #[.int .i64 x214000_2, .slice Ao47 x214001_2.length co47]] (by rfl) rfl rfl (by (try simp only [List.map_toArray, List.map_cons, List.map_nil]); first | done | rfl | (simp only [List.length_drop, List.length_take]; rfl)) ?_
        with_reducible refine (L2_zoneBack.calls k2 x214000_2 _ _ x214001_2 t227 t228 _ ?side1 ?side2 A24.out).mono ?_
        (case side1 => repeat (first | exact (Kd.R_reads' HO_214001.out).2.2 | (with_reducible refine Kd.C_alloc ?_ _) | (with_reducible refine Kd.C_drewN ?_ _) | (with_reducible refine Kd.C_drew ?_)))
        (case side2 => exact (Kd.R_reads' HO_214001.out).2.1)
        rintro e w59 ⟨v229, rfl, ho0, hb⟩
        refine ⟨_, rfl, ?_⟩
        have n0_ := am (Kd.R_below (by (with_reducible repeat (first | apply Kd.R_alloc | apply Kd.R_drewN | apply Kd.R_drew)); exact HO_214001.out) hb)
        have n1_ := am (Kd.R_below (by (with_reducible repeat (first | apply Kd.R_alloc | apply Kd.R_drewN | apply Kd.R_drew)); exact HO219.out) hb)
        have n2_ := am (Kd.R_below (by (with_reducible repeat (first | apply Kd.R_alloc | apply Kd.R_drewN | apply Kd.R_drew)); exact HO223.out) hb)
        have n3_ := am (Kd.R_lower ho0 (below_size pw))
        have n4_ := bb BK207 hb
        have n5_ := bb BK213 hb
        have n6_ := bb BK225 hb
        have n7_ := am (below_step pw hb)
        clear HO_214001 HO219 HO223 BK207 BK213 BK225 HB
        revert n0_ n1_ n2_ n3_ n4_ n5_ n6_ n7_
        intro HO_214001 HO219 HO223 HO230 BK207 BK213 BK225 HB
        (try clear hb)
        (try clear hb2)
        (try clear hk)
        (try clear hi)
        (try clear ho0)
        obtain ⟨Ao60, co60, eo60⟩ := Kd.R_slice HO230.out
        (first | subst eo60 | (injection eo60 with f1_ f2_ f3_; have f4_ := f1_.symm; have f5_ := f3_.symm; clear f1_ f2_ f3_; subst f4_; subst f5_))
        refine hK.out _ _ ⟨bc BK225 0, bc BK225 1, bc BK213 0, bc BK213 1⟩ (fun hHeld => ?_)
        clear hK K
        refine norm_ (a' := ?_) ?_ ?_
        rotate_left
        ·show Act.put _ (some 55) _ = _
         simp only [Act.put, List.setIfInBounds_toArray, List.set_cons_zero, List.set_cons_succ, i64_w, i32_w]
         rfl
        refine one_ (i := 3) (N := some 56) #[true, true, true, true, false] rfl rfl kk (by decide) (fun K hK => ?_)
        refine goes_ Tryd.func31 kk rfl #[.agg #[.int .i64 t220, .slice Ao55 t221.length co55], .agg #[.int .i64 t227, .slice Ao60 t228.length co60]] (by rfl) rfl rfl (by (try simp only [List.map_toArray, List.map_cons, List.map_nil]); first | done | rfl | (simp only [List.length_drop, List.length_take]; rfl)) ?_
        with_reducible refine (L2_isZone.calls k2 t220 _ _ t221 t227 _ _ t228 false _ ?side1 ?side2 ?side3 ?side4 A25.out).mono ?_
        (case side1 => repeat (first | exact (Kd.R_reads' HO223.out).2.2 | (with_reducible refine Kd.C_alloc ?_ _) | (with_reducible refine Kd.C_drewN ?_ _) | (with_reducible refine Kd.C_drew ?_)))
        (case side2 => exact (Kd.R_reads' HO223.out).2.1)
        (case side3 => repeat (first | exact (Kd.R_reads' HO230.out).2.2 | (with_reducible refine Kd.C_alloc ?_ _) | (with_reducible refine Kd.C_drewN ?_ _) | (with_reducible refine Kd.C_drew ?_)))
        (case side4 => exact (Kd.R_reads' HO230.out).2.1)
        rintro e w61 ⟨rfl, hb⟩
        refine ⟨_, rfl, ?_⟩
        have n0_ := am (Kd.R_below (by (with_reducible repeat (first | apply Kd.R_alloc | apply Kd.R_drewN | apply Kd.R_drew)); exact HO_214001.out) hb)
        have n1_ := am (Kd.R_below (by (with_reducible repeat (first | apply Kd.R_alloc | apply Kd.R_drewN | apply Kd.R_drew)); exact HO219.out) hb)
        have n2_ := am (Kd.R_below (by (with_reducible repeat (first | apply Kd.R_alloc | apply Kd.R_drewN | apply Kd.R_drew)); exact HO223.out) hb)
        have n3_ := am (Kd.R_below (by (with_reducible repeat (first | apply Kd.R_alloc | apply Kd.R_drewN | apply Kd.R_drew)); exact HO230.out) hb)
        have n4_ := bb BK207 hb
        have n5_ := bb BK213 hb
        have n6_ := bb BK225 hb
        have n7_ := am (below_step pw hb)
        clear HO_214001 HO219 HO223 HO230 BK207 BK213 BK225 HB
        revert n0_ n1_ n2_ n3_ n4_ n5_ n6_ n7_
        intro HO_214001 HO219 HO223 HO230 BK207 BK213 BK225 HB
        (try clear hb)
        (try clear hb2)
        (try clear hk)
        (try clear hi)
        refine hK.out _ _ ⟨bc BK225 0, bc BK225 1, bc BK213 0, bc BK213 1⟩ (fun hHeld => ?_)
        clear hK K
        refine norm_ (a' := ?_) ?_ ?_
        rotate_left
        ·show Act.put _ (some 56) _ = _
         simp only [Act.put, List.setIfInBounds_toArray, List.set_cons_zero, List.set_cons_succ, i64_w, i32_w]
         rfl
        refine pure_ (i := 4) (N := some 57) (v := ?_) (a' := ?_) #[true, true, true, true, true] rfl rfl kk (fun _ _ _ h => h) (Or.inl ⟨by rfl, ?_⟩) ?_ ?_
        rotate_left
        ·intro w'
         go_simp
         with_reducible rfl
        rotate_left
        ·simp only [Act.put, List.setIfInBounds_toArray, List.set_cons_zero, List.set_cons_succ, i64_w, i32_w]
         rfl
        refine done_ kk ?_
        have hnb62 := NB225_207.out
        have hnc62 := NB207_225.out
        have hnb63 := NB225_213.out
        have hnc63 := NB213_225.out
        have hcz64_0 : w61.cell? ⟨gb225, 0, none⟩ = some (.int .i64 t220) := bc BK225 0
        have hcz64_1 : w61.cell? ⟨gb225, 1, none⟩ = some (.slice Ao55 t221.length co55) := bc BK225 1
        have hfz64_0 := blk_frozen BK225.out 0
        have hfz64_1 := blk_frozen BK225.out 1
        have hnb65 := NB213_207.out
        have hnc65 := NB207_213.out
        have hcz66_0 : w61.cell? ⟨gb213, 0, none⟩ = some (.int .i64 x214000_2) := bc BK213 0
        have hcz66_1 : w61.cell? ⟨gb213, 1, none⟩ = some (.slice Ao47 x214001_2.length co47) := bc BK213 1
        have hfz66_0 := blk_frozen BK213.out 0
        have hfz66_1 := blk_frozen BK213.out 1
        try go_wp2
        go_roundg k2
        case measure => have := HJ3.out; have := HK2.out; omega
        case rel => exact ⟨(wrap64 (x7_2 + 1)), (wrap64 (x8_2 + 1)), (t220), (t221), (.slice Ao55 t221.length co55), pr, pr, H', ⟨by have := HJ3.out; have := HK2.out; omega⟩, ⟨by (with_reducible repeat (first | apply Kd.R_alloc | apply Kd.R_drewN | apply Kd.R_drew)); exact Kd.R_mono (Kd.R_far (p := ⟨gb213, 1, none⟩) (Kd.R_far (p := ⟨gb213, 0, none⟩) (Kd.R_types HO223.out BK213.out (by decide)) (fun _ hk => hk.2) (.int .i64 t220)) (fun _ hk => hk.2) (.slice Ao55 t221.length co55)) (fun _ hk => trivial)⟩, ⟨by (with_reducible repeat (first | refine blk_drewN ?_ _ | refine blk_drew ?_ | refine blk_alloc ?_ _)); refine blk_far ?_ NB207_213.out _; (with_reducible repeat (first | refine blk_drewN ?_ _ | refine blk_drew ?_ | refine blk_alloc ?_ _)); refine blk_far ?_ NB207_213.out _; (with_reducible repeat (first | refine blk_drewN ?_ _ | refine blk_drew ?_ | refine blk_alloc ?_ _)); exact BK207.out⟩, ⟨by (with_reducible repeat (first | refine blk_drewN ?_ _ | refine blk_drew ?_ | refine blk_alloc ?_ _)); refine blk_put (cs := #[.int .i64 t220, .slice Ao47 x214001_2.length co47]) ?_ 1 _ rfl; (with_reducible repeat (first | refine blk_drewN ?_ _ | refine blk_drew ?_ | refine blk_alloc ?_ _)); refine blk_put (cs := #[.int .i64 x214000_2, .slice Ao47 x214001_2.length co47]) ?_ 0 _ rfl; (with_reducible repeat (first | refine blk_drewN ?_ _ | refine blk_drew ?_ | refine blk_alloc ?_ _)); exact BK213.out⟩, ⟨pw⟩⟩
      have H1 : (some true) = some r := by rw [if_neg (show ¬ (some q226).isNone = true by simp)] at H; exact H
      clear H
      have H := H1
      clear H1
      try simp only [errW_none, errW_some]
      as_aux_lemma =>
       obtain rfl := Option.some.inj H
       have p214 : 0 ≤ (x8_2 : Int) := of_decide_eq_true (by first | (with_reducible assumption) | assumption)
       have q214 : x8_2 < (l1.length : Int) := of_decide_eq_true (by first | (with_reducible assumption) | assumption)
       obtain ⟨ad214, A214_1, c214_1, e214, hx214_0, hx214_1, hl214_1, hi214_1⟩ := at_T33 HR1.out x8_2 p214 q214
       cases e214
       replace hx214_0 := (HB.out.cell (World.block_lt_of_cell? w _ hx214_0)).trans hx214_0
       replace hx214_1 := (HB.out.cell (World.block_lt_of_cell? w _ hx214_1)).trans hx214_1
       have HR214_1 := am hi214_1
       have HC214_1 := am hl214_1
       clear hi214_1 hl214_1
       replace p214 := eq_true p214
       replace q214 := eq_true q214
       obtain ⟨Ao67, co67, eo67⟩ := Kd.R_slice HO_214001.out
       subst eo67
       try go_wp2
       have n0_ := am (Kd.R_drew HO_214001.out)
       have n1_ := am (blk_drew BK207.out)
       have n2_ := am (blk_drew BK213.out)
       have n3_ := am (below_drew1 HB.out)
       clear HO_214001 BK207 BK213 HB
       revert n0_ n1_ n2_ n3_
       intro HO_214001 BK207 BK213 HB
       have p215 : 0 ≤ (x8_2 : Int) := of_decide_eq_true (by first | (with_reducible assumption) | assumption)
       have q215 : x8_2 < (l1.length : Int) := of_decide_eq_true (by first | (with_reducible assumption) | assumption)
       obtain ⟨ad215, A215_1, c215_1, e215, hx215_0, hx215_1, hl215_1, hi215_1⟩ := at_T33 HR1.out x8_2 p215 q215
       have hw215_1 := hx215_1
       have hw215_0 := hx215_0
       obtain rfl : ad214 = ad215 := (by injection e215)
       replace hx215_0 := (HB.out.cell (World.block_lt_of_cell? w _ hx215_0)).trans hx215_0
       replace hx215_1 := (HB.out.cell (World.block_lt_of_cell? w _ hx215_1)).trans hx215_1
       have HR215_1 := am hi215_1
       have HC215_1 := am hl215_1
       clear hi215_1 hl215_1
       replace p215 := eq_true p215
       replace q215 := eq_true q215
       refine start_ (n := 13) (S := fun w' => w'.cell? ⟨gb213, 0, none⟩ = some (.int .i64 x214000_2) ∧ w'.cell? ⟨gb213, 1, none⟩ = some (.slice Ao67 x214001_2.length co67) ∧ w'.cell? (ad214.add ((x8_2).toNat * 2)) = some (.int .i64 ((rd_T33 l1 x8_2).f0)) ∧ w'.cell? ⟨(ad214.add ((x8_2).toNat * 2)).block, (ad214.add ((x8_2).toNat * 2)).off + 1, none⟩ = some (.slice A215_1 ((rd_T33 l1 x8_2).f1).length c215_1)) (ds := []) #[false, false, false, false, false, false, false, false, false, false, false, false, false] kk rfl rfl ⟨bc BK213 0, bc BK213 1, ((HB.out.cell (World.block_lt_of_cell? w _ hw215_0)).trans hw215_0), ((HB.out.cell (World.block_lt_of_cell? w _ hw215_1)).trans hw215_1)⟩ (fun hHeld => ?_); refine with_tabW L2_ZoneStays.tab11 L2_ZoneStays.bits11 (fun HT_ HW_ => ?_)
       generalize wr.drew = w68 at HO_214001 BK207 BK213 HB HR215_1 hx215_0 hx215_1 hHeld ⊢
       refine pure_ (i := 1) (N := some 43) (v := ?_) (a' := ?_) #[false, true, false, false, false, false, false, false, false, false, false, false, false] rfl rfl (any_of HT_.out kk) (fun _ _ _ h => h) (Or.inl ⟨by rfl, ?_⟩) ?_ ?_
       rotate_left
       ·intro w'
        go_simp
        with_reducible rfl
       rotate_left
       ·simp only [Act.put, List.setIfInBounds_toArray, List.set_cons_zero, List.set_cons_succ, i64_w, i32_w]
        rfl
       refine pure_ (i := 2) (N := some 44) (v := ?_) (a' := ?_) #[false, true, true, false, false, false, false, false, false, false, false, false, false] rfl rfl (any_of HT_.out kk) (fun _ _ _ h => h) (Or.inl ⟨by rfl, ?_⟩) ?_ ?_
       rotate_left
       ·intro w'
        go_simp
        with_reducible rfl
       rotate_left
       ·simp only [Act.put, List.setIfInBounds_toArray, List.set_cons_zero, List.set_cons_succ, i64_w, i32_w]
        rfl
       refine pure_ (i := 3) (N := some 45) (v := ?_) (a' := ?_) #[false, true, true, true, false, false, false, false, false, false, false, false, false] rfl rfl (any_of HT_.out kk) (fun _ _ _ h => h) (Or.inl ⟨by rfl, ?_⟩) ?_ ?_
       rotate_left
       ·intro w'
        go_simp
        with_reducible rfl
       rotate_left
       ·simp only [Act.put, List.setIfInBounds_toArray, List.set_cons_zero, List.set_cons_succ, i64_w, i32_w]
        rfl
       refine take_ (i := 0) (N := some 42) (v := ?_) (a' := ?_) #[true, true, true, true, false, false, false, false, false, false, false, false, false] rfl rfl (take_ofW HT_.out HW_.out kk) (fun _ _ _ h => h) (Or.inl ⟨by rfl, ?_⟩) hHeld ?_ ?_
       rotate_left
       ·rintro w' ⟨s0, s1, s2, s3⟩
        go_simp
        with_reducible rfl
       rotate_left
       ·simp only [Act.put, List.setIfInBounds_toArray, List.set_cons_zero, List.set_cons_succ, i64_w, i32_w]
        rfl
       refine take_ (i := 4) (N := some 46) (v := ?_) (a' := ?_) #[true, true, true, true, true, false, false, false, false, false, false, false, false] rfl rfl (take_ofW HT_.out HW_.out kk) (fun _ _ _ h => h) (Or.inl ⟨by rfl, ?_⟩) hHeld ?_ ?_
       rotate_left
       ·rintro w' ⟨s0, s1, s2, s3⟩
        go_simp
        with_reducible rfl
       rotate_left
       ·simp only [Act.put, List.setIfInBounds_toArray, List.set_cons_zero, List.set_cons_succ, i64_w, i32_w]
        rfl
       refine join_ (σ := Value × Value × Nat) 2 #[true, true, true, true, true, true, true, true, true, true, true, false, false] (fun s_ => [(47, .agg #[.int .i64 t216, s_.1]), (48, .tuple #[.agg #[.int .i64 t220, s_.2.1], errW (some q226)]), (9, .pointer (some ⟨s_.2.2, 0, none⟩)), (41, .tuple #[.agg #[.int .i64 t220, s_.2.1], errW (some q226)]), (49, .agg #[.int .i64 t220, s_.2.1]), (50, errW (some q226))]) (fun s_ w' => (w'.cell? ⟨gb213, 0, none⟩ = some (.int .i64 x214000_2) ∧ w'.cell? ⟨gb213, 1, none⟩ = some (.slice Ao67 x214001_2.length co67) ∧ w'.cell? (ad214.add ((x8_2).toNat * 2)) = some (.int .i64 ((rd_T33 l1 x8_2).f0)) ∧ w'.cell? ⟨(ad214.add ((x8_2).toNat * 2)).block, (ad214.add ((x8_2).toNat * 2)).off + 1, none⟩ = some (.slice A215_1 ((rd_T33 l1 x8_2).f1).length c215_1)) ∧ (Kd.R k42 42 w' w.heap.size (fun k_ => some k_ ≠ (s_.2.1 : Value).ownBlock ∧ some k_ ≠ (.slice Ao67 x214001_2.length co67 : Value).ownBlock) s_.1 t217) ∧ (Kd.R k42 42 w' w.heap.size (fun k_ => some k_ ≠ (s_.1 : Value).ownBlock ∧ some k_ ≠ (.slice Ao67 x214001_2.length co67 : Value).ownBlock) s_.2.1 t221) ∧ (Kd.R k42 42 w' w.heap.size (fun k_ => some k_ ≠ (s_.1 : Value).ownBlock ∧ some k_ ≠ (s_.2.1 : Value).ownBlock) (.slice Ao67 x214001_2.length co67) x214001_2) ∧ (w'.heap[gb207]? = some (.cells #[.int .i64 a0_0, .slice A0_1 l0_1.length c0_1] 33 (0, 0))) ∧ (w'.heap[gb213]? = some (.cells #[.int .i64 x214000_2, .slice Ao67 x214001_2.length co67] 37 (0, 0))) ∧ (w'.heap[s_.2.2]? = some (.cells #[.int .i64 0, .slice none 0 0] 37 (0, 0))) ∧ (w.heap.size ≤ s_.2.2) ∧ (w.heap.size ≤ s_.2.2) ∧ (gb207 ≠ s_.2.2) ∧ (s_.2.2 ≠ gb207) ∧ (gb213 ≠ s_.2.2) ∧ (s_.2.2 ≠ gb213) ∧ (Below w.heap.size w w')) ?_ ?_
       rotate_left
       ·intro hCont
        refine two_ (i := 5) (j := 10) (Ni := some 47) (Nj := some 9) #[true, true, true, true, true, true, false, false, false, false, false, false, false] #[true, true, true, true, true, false, false, false, false, false, true, false, false] rfl rfl rfl rfl (two_of HT_.out kk) (by decide) (by decide) (fun K hK => ?_) (fun K hK => ?_)
        ·skip
         refine goes_ Tryd.func23 kk rfl #[.agg #[.int .i64 ((rd_T33 l1 x8_2).f0), .slice A215_1 ((rd_T33 l1 x8_2).f1).length c215_1]] (by rfl) rfl rfl (by (try simp only [List.map_toArray, List.map_cons, List.map_nil]); first | done | rfl | (simp only [List.length_drop, List.length_take]; rfl)) ?_
         with_reducible refine (L2_zoneOf.calls k2 ((rd_T33 l1 x8_2).f0) _ _ ((rd_T33 l1 x8_2).f1) t216 t217 _ ?side1 ?side2 A22.out).mono ?_
         (case side1 => repeat (first | exact (Kd.C_below HR215_1.out HB.out) | (with_reducible refine Kd.C_alloc ?_ _) | (with_reducible refine Kd.C_drewN ?_ _) | (with_reducible refine Kd.C_drew ?_)))
         (case side2 => exact HC215_1.out)
         rintro e w69 ⟨v218, rfl, ho0, hb⟩
         refine ⟨_, rfl, ?_⟩
         have n0_ := am (Kd.R_elder' (by (with_reducible repeat (first | apply Kd.R_alloc | apply Kd.R_drewN | apply Kd.R_drew)); exact HO_214001.out) (Kd.R_base ho0) hb)
         have n1_ := am (Kd.R_lower (Kd.R_new' ho0 (Kd.R_lt (by (with_reducible repeat (first | apply Kd.R_alloc | apply Kd.R_drewN | apply Kd.R_drew)); exact HO_214001.out))) (below_size pw))
         have n2_ := bb BK207 hb
         have n3_ := bb BK213 hb
         have n4_ := am (below_step pw hb)
         clear HO_214001 BK207 BK213 HB
         revert n0_ n1_ n2_ n3_ n4_
         intro HO_214001 HO219 BK207 BK213 HB
         (try clear hb)
         (try clear hb2)
         (try clear hk)
         (try clear hi)
         (try clear ho0)
         obtain ⟨Ao70, co70, eo70⟩ := Kd.R_slice HO219.out
         (first | subst eo70 | (injection eo70 with f1_ f2_ f3_; have f4_ := f1_.symm; have f5_ := f3_.symm; clear f1_ f2_ f3_; subst f4_; subst f5_))
         refine hK.out _ _ ⟨bc BK213 0, bc BK213 1, ((HB.out.cell (World.block_lt_of_cell? w _ hw215_0)).trans hw215_0), ((HB.out.cell (World.block_lt_of_cell? w _ hw215_1)).trans hw215_1)⟩ (fun hHeld => ?_)
         clear hK K
         refine norm_ (a' := ?_) ?_ ?_
         rotate_left
         ·show Act.put _ (some 47) _ = _
          simp only [Act.put, List.setIfInBounds_toArray, List.set_cons_zero, List.set_cons_succ, i64_w, i32_w]
          rfl
         refine two_ (i := 6) (j := 10) (Ni := some 48) (Nj := some 9) #[true, true, true, true, true, true, true, false, false, false, false, false, false] #[true, true, true, true, true, true, false, false, false, false, true, false, false] rfl rfl rfl rfl (two_of HT_.out kk) (by decide) (by decide) (fun K hK => ?_) (fun K hK => ?_)
         ·skip
          refine goes_ Tryd.func30 kk rfl #[.agg #[.int .i64 x214000_2, .slice Ao67 x214001_2.length co67], .agg #[.int .i64 t216, .slice Ao70 t217.length co70]] (by rfl) rfl rfl (by (try simp only [List.map_toArray, List.map_cons, List.map_nil]); first | done | rfl | (simp only [List.length_drop, List.length_take]; rfl)) ?_
          with_reducible refine (zone_Widen.calls x214000_2 _ _ x214001_2 t216 _ _ t217 t220 t221 (some q226) _ ?side1 ?side2 ?side3 ?side4 A23.out (am (ErrAt.below hE2.out pw)).out (am (ErrAt.below hE3.out pw)).out).mono ?_
          (case side1 => repeat (first | exact (Kd.R_reads' HO_214001.out).2.2 | (with_reducible refine Kd.C_alloc ?_ _) | (with_reducible refine Kd.C_drewN ?_ _) | (with_reducible refine Kd.C_drew ?_)))
          (case side2 => exact (Kd.R_reads' HO_214001.out).2.1)
          (case side3 => repeat (first | exact (Kd.R_reads' HO219.out).2.2 | (with_reducible refine Kd.C_alloc ?_ _) | (with_reducible refine Kd.C_drewN ?_ _) | (with_reducible refine Kd.C_drew ?_)))
          (case side4 => exact (Kd.R_reads' HO219.out).2.1)
          rintro e w71 ⟨v222, rfl, ho0, hb⟩
          refine ⟨_, rfl, ?_⟩
          have n0_ := am (Kd.R_elder' (by (with_reducible repeat (first | apply Kd.R_alloc | apply Kd.R_drewN | apply Kd.R_drew)); exact HO_214001.out) (Kd.R_base ho0) hb)
          have n1_ := am (Kd.R_elder' (by (with_reducible repeat (first | apply Kd.R_alloc | apply Kd.R_drewN | apply Kd.R_drew)); exact HO219.out) (Kd.R_base ho0) hb)
          have n2_ := am (Kd.R_lower (Kd.R_new' (Kd.R_new' ho0 (Kd.R_lt (by (with_reducible repeat (first | apply Kd.R_alloc | apply Kd.R_drewN | apply Kd.R_drew)); exact HO_214001.out))) (Kd.R_lt (by (with_reducible repeat (first | apply Kd.R_alloc | apply Kd.R_drewN | apply Kd.R_drew)); exact HO219.out))) (below_size pw))
          have n3_ := bb BK207 hb
          have n4_ := bb BK213 hb
          have n5_ := am (below_step pw hb)
          clear HO_214001 HO219 BK207 BK213 HB
          revert n0_ n1_ n2_ n3_ n4_ n5_
          intro HO_214001 HO219 HO223 BK207 BK213 HB
          (try clear hb)
          (try clear hb2)
          (try clear hk)
          (try clear hi)
          (try clear ho0)
          (try simp only [errW_none, errW_some])
          refine hK.out _ _ ⟨bc BK213 0, bc BK213 1, ((HB.out.cell (World.block_lt_of_cell? w _ hw215_0)).trans hw215_0), ((HB.out.cell (World.block_lt_of_cell? w _ hw215_1)).trans hw215_1)⟩ (fun hHeld => ?_)
          clear hK K
          refine norm_ (a' := ?_) ?_ ?_
          rotate_left
          ·show Act.put _ (some 48) _ = _
           simp only [Act.put, List.setIfInBounds_toArray, List.set_cons_zero, List.set_cons_succ, i64_w, i32_w]
           rfl
          refine pure_ (i := 7) (N := some 41) (v := ?_) (a' := ?_) #[true, true, true, true, true, true, true, true, false, false, false, false, false] rfl rfl (any_of HT_.out kk) (fun _ _ _ h => h) (Or.inl ⟨by rfl, ?_⟩) ?_ ?_
          rotate_left
          ·intro w'
           go_simp
           with_reducible rfl
          rotate_left
          ·simp only [Act.put, List.setIfInBounds_toArray, List.set_cons_zero, List.set_cons_succ, i64_w, i32_w]
           rfl
          refine pure_ (i := 8) (N := some 49) (v := ?_) (a' := ?_) #[true, true, true, true, true, true, true, true, true, false, false, false, false] rfl rfl (any_of HT_.out kk) (fun _ _ _ h => h) (Or.inl ⟨by rfl, ?_⟩) ?_ ?_
          rotate_left
          ·intro w'
           go_simp
           with_reducible rfl
          rotate_left
          ·simp only [Act.put, List.setIfInBounds_toArray, List.set_cons_zero, List.set_cons_succ, i64_w, i32_w]
           rfl
          refine pure_ (i := 9) (N := some 50) (v := ?_) (a' := ?_) #[true, true, true, true, true, true, true, true, true, true, false, false, false] rfl rfl (any_of HT_.out kk) (fun _ _ _ h => h) (Or.inl ⟨by rfl, ?_⟩) ?_ ?_
          rotate_left
          ·intro w'
           go_simp
           with_reducible rfl
          rotate_left
          ·simp only [Act.put, List.setIfInBounds_toArray, List.set_cons_zero, List.set_cons_succ, i64_w, i32_w]
           rfl
          refine one_ (i := 10) (N := some 9) #[true, true, true, true, true, true, true, true, true, true, true, false, false] rfl rfl (one_of HT_.out kk) (by decide) (fun K hK => ?_)
          refine box_step ?hg (N := 9) ?hd (cs := #[.int .i64 0, .slice none 0 0]) (t := 37) ?hr ?_; (case hd => rfl); (case hg => rfl); (case hr => first | (go_simp; done) | (go_simp; rfl))
          intro gb225 hg w72 hbox hb
          have n0_ := am (Kd.R_below (by (with_reducible repeat (first | apply Kd.R_alloc | apply Kd.R_drewN | apply Kd.R_drew)); exact HO_214001.out) hb)
          have n1_ := am (Kd.R_below (by (with_reducible repeat (first | apply Kd.R_alloc | apply Kd.R_drewN | apply Kd.R_drew)); exact HO219.out) hb)
          have n2_ := am (Kd.R_below (by (with_reducible repeat (first | apply Kd.R_alloc | apply Kd.R_drewN | apply Kd.R_drew)); exact HO223.out) hb)
          have n3_ := bb BK207 hb
          have n4_ := bb BK213 hb
          have n5_ := am (below_step pw hb)
          have n6_ := am (hbox)
          have n7_ := am ((by rw [hg]; exact (below_size pw) : w.heap.size ≤ gb225))
          have n8_ := am ((by rw [hg]; exact (below_size pw) : w.heap.size ≤ gb225))
          have n9_ := am ((by rw [hg]; exact Nat.ne_of_lt (blk_lt pk) : gb207 ≠ gb225))
          have n10_ := am ((by rw [hg]; exact Nat.ne_of_gt (blk_lt pk) : gb225 ≠ gb207))
          have n11_ := am ((by rw [hg]; exact Nat.ne_of_lt (blk_lt pk) : gb213 ≠ gb225))
          have n12_ := am ((by rw [hg]; exact Nat.ne_of_gt (blk_lt pk) : gb225 ≠ gb213))
          clear HO_214001 HO219 HO223 BK207 BK213 HB
          revert n0_ n1_ n2_ n3_ n4_ n5_ n6_ n7_ n8_ n9_ n10_ n11_ n12_
          intro HO_214001 HO219 HO223 BK207 BK213 HB BK225 GW225 GE225 NB207_225 NB225_207 NB213_225 NB225_213
          clear hb hbox hg
          refine hK.out _ _ ⟨bc BK213 0, bc BK213 1, ((HB.out.cell (World.block_lt_of_cell? w _ hw215_0)).trans hw215_0), ((HB.out.cell (World.block_lt_of_cell? w _ hw215_1)).trans hw215_1)⟩ (fun hHeld => ?_)
          clear hK K
          refine norm_ (a' := ?_) ?_ ?_
          rotate_left
          ·show Act.put _ (some 9) _ = _
           simp only [Act.put, List.setIfInBounds_toArray, List.set_cons_zero, List.set_cons_succ, i64_w, i32_w]
           rfl
          exact norm_ (by simp only [putAll, Act.put, List.setIfInBounds_toArray, List.set_cons_zero, List.set_cons_succ, errW_none, errW_some]) (hCont (.slice Ao70 t217.length co70, v222, gb225) _ ⟨hHeld, (by (with_reducible repeat (first | apply Kd.R_alloc | apply Kd.R_drewN | apply Kd.R_drew)); exact Kd.R_mono HO219.out (fun _ hk => ⟨hk.2, hk.1.2⟩)), (by (with_reducible repeat (first | apply Kd.R_alloc | apply Kd.R_drewN | apply Kd.R_drew)); exact Kd.R_mono HO223.out (fun _ hk => ⟨hk.2, hk.1.2⟩)), (by (with_reducible repeat (first | apply Kd.R_alloc | apply Kd.R_drewN | apply Kd.R_drew)); exact Kd.R_mono HO_214001.out (fun _ hk => ⟨hk.1.2, hk.2⟩)), pk, pk, pk, GW225.out, GE225.out, NB207_225.out, NB225_207.out, NB213_225.out, NB225_213.out, pw⟩)
         skip
         refine box_step ?hg (N := 9) ?hd (cs := #[.int .i64 0, .slice none 0 0]) (t := 37) ?hr ?_; (case hd => rfl); (case hg => rfl); (case hr => first | (go_simp; done) | (go_simp; rfl))
         intro gb225 hg w70 hbox hb
         have n0_ := am (Kd.R_below (by (with_reducible repeat (first | apply Kd.R_alloc | apply Kd.R_drewN | apply Kd.R_drew)); exact HO_214001.out) hb)
         have n1_ := am (Kd.R_below (by (with_reducible repeat (first | apply Kd.R_alloc | apply Kd.R_drewN | apply Kd.R_drew)); exact HO219.out) hb)
         have n2_ := bb BK207 hb
         have n3_ := bb BK213 hb
         have n4_ := am (below_step pw hb)
         have n5_ := am (hbox)
         have n6_ := am ((by rw [hg]; exact (below_size pw) : w.heap.size ≤ gb225))
         have n7_ := am ((by rw [hg]; exact (below_size pw) : w.heap.size ≤ gb225))
         have n8_ := am ((by rw [hg]; exact Nat.ne_of_lt (blk_lt pk) : gb207 ≠ gb225))
         have n9_ := am ((by rw [hg]; exact Nat.ne_of_gt (blk_lt pk) : gb225 ≠ gb207))
         have n10_ := am ((by rw [hg]; exact Nat.ne_of_lt (blk_lt pk) : gb213 ≠ gb225))
         have n11_ := am ((by rw [hg]; exact Nat.ne_of_gt (blk_lt pk) : gb225 ≠ gb213))
         clear HO_214001 HO219 BK207 BK213 HB
         revert n0_ n1_ n2_ n3_ n4_ n5_ n6_ n7_ n8_ n9_ n10_ n11_
         intro HO_214001 HO219 BK207 BK213 HB BK225 GW225 GE225 NB207_225 NB225_207 NB213_225 NB225_213
         clear hb hbox hg
         obtain ⟨Ao71, co71, eo71⟩ := Kd.R_slice HO219.out
         (first | subst eo71 | (injection eo71 with f1_ f2_ f3_; have f4_ := f1_.symm; have f5_ := f3_.symm; clear f1_ f2_ f3_; subst f4_; subst f5_))
         refine hK.out _ _ ⟨bc BK213 0, bc BK213 1, ((HB.out.cell (World.block_lt_of_cell? w _ hw215_0)).trans hw215_0), ((HB.out.cell (World.block_lt_of_cell? w _ hw215_1)).trans hw215_1)⟩ (fun hHeld => ?_)
         clear hK K
         refine norm_ (a' := ?_) ?_ ?_
         rotate_left
         ·show Act.put _ (some 9) _ = _
          simp only [Act.put, List.setIfInBounds_toArray, List.set_cons_zero, List.set_cons_succ, i64_w, i32_w]
          rfl
         refine one_ (i := 6) (N := some 48) #[true, true, true, true, true, true, true, false, false, false, true, false, false] rfl rfl (one_of HT_.out kk) (by decide) (fun K hK => ?_)
         refine goes_ Tryd.func30 kk rfl #[.agg #[.int .i64 x214000_2, .slice Ao67 x214001_2.length co67], .agg #[.int .i64 t216, .slice Ao71 t217.length co71]] (by rfl) rfl rfl (by (try simp only [List.map_toArray, List.map_cons, List.map_nil]); first | done | rfl | (simp only [List.length_drop, List.length_take]; rfl)) ?_
         with_reducible refine (zone_Widen.calls x214000_2 _ _ x214001_2 t216 _ _ t217 t220 t221 (some q226) _ ?side1 ?side2 ?side3 ?side4 A23.out (am (ErrAt.below hE2.out pw)).out (am (ErrAt.below hE3.out pw)).out).mono ?_
         (case side1 => repeat (first | exact (Kd.R_reads' HO_214001.out).2.2 | (with_reducible refine Kd.C_alloc ?_ _) | (with_reducible refine Kd.C_drewN ?_ _) | (with_reducible refine Kd.C_drew ?_)))
         (case side2 => exact (Kd.R_reads' HO_214001.out).2.1)
         (case side3 => repeat (first | exact (Kd.R_reads' HO219.out).2.2 | (with_reducible refine Kd.C_alloc ?_ _) | (with_reducible refine Kd.C_drewN ?_ _) | (with_reducible refine Kd.C_drew ?_)))
         (case side4 => exact (Kd.R_reads' HO219.out).2.1)
         rintro e w72 ⟨v222, rfl, ho0, hb⟩
         refine ⟨_, rfl, ?_⟩
         have n0_ := am (Kd.R_elder' (by (with_reducible repeat (first | apply Kd.R_alloc | apply Kd.R_drewN | apply Kd.R_drew)); exact HO_214001.out) (Kd.R_base ho0) hb)
         have n1_ := am (Kd.R_elder' (by (with_reducible repeat (first | apply Kd.R_alloc | apply Kd.R_drewN | apply Kd.R_drew)); exact HO219.out) (Kd.R_base ho0) hb)
         have n2_ := am (Kd.R_lower (Kd.R_new' (Kd.R_new' ho0 (Kd.R_lt (by (with_reducible repeat (first | apply Kd.R_alloc | apply Kd.R_drewN | apply Kd.R_drew)); exact HO_214001.out))) (Kd.R_lt (by (with_reducible repeat (first | apply Kd.R_alloc | apply Kd.R_drewN | apply Kd.R_drew)); exact HO219.out))) (below_size pw))
         have n3_ := bb BK207 hb
         have n4_ := bb BK213 hb
         have n5_ := bb BK225 hb
         have n6_ := am (below_step pw hb)
         clear HO_214001 HO219 BK207 BK213 BK225 HB
         revert n0_ n1_ n2_ n3_ n4_ n5_ n6_
         intro HO_214001 HO219 HO223 BK207 BK213 BK225 HB
         (try clear hb)
         (try clear hb2)
         (try clear hk)
         (try clear hi)
         (try clear ho0)
         (try simp only [errW_none, errW_some])
         refine hK.out _ _ ⟨bc BK213 0, bc BK213 1, ((HB.out.cell (World.block_lt_of_cell? w _ hw215_0)).trans hw215_0), ((HB.out.cell (World.block_lt_of_cell? w _ hw215_1)).trans hw215_1)⟩ (fun hHeld => ?_)
         clear hK K
         refine norm_ (a' := ?_) ?_ ?_
         rotate_left
         ·show Act.put _ (some 48) _ = _
          simp only [Act.put, List.setIfInBounds_toArray, List.set_cons_zero, List.set_cons_succ, i64_w, i32_w]
          rfl
         refine pure_ (i := 7) (N := some 41) (v := ?_) (a' := ?_) #[true, true, true, true, true, true, true, true, false, false, true, false, false] rfl rfl (any_of HT_.out kk) (fun _ _ _ h => h) (Or.inl ⟨by rfl, ?_⟩) ?_ ?_
         rotate_left
         ·intro w'
          go_simp
          with_reducible rfl
         rotate_left
         ·simp only [Act.put, List.setIfInBounds_toArray, List.set_cons_zero, List.set_cons_succ, i64_w, i32_w]
          rfl
         refine pure_ (i := 8) (N := some 49) (v := ?_) (a' := ?_) #[true, true, true, true, true, true, true, true, true, false, true, false, false] rfl rfl (any_of HT_.out kk) (fun _ _ _ h => h) (Or.inl ⟨by rfl, ?_⟩) ?_ ?_
         rotate_left
         ·intro w'
          go_simp
          with_reducible rfl
         rotate_left
         ·simp only [Act.put, List.setIfInBounds_toArray, List.set_cons_zero, List.set_cons_succ, i64_w, i32_w]
          rfl
         refine pure_ (i := 9) (N := some 50) (v := ?_) (a' := ?_) #[true, true, true, true, true, true, true, true, true, true, true, false, false] rfl rfl (any_of HT_.out kk) (fun _ _ _ h => h) (Or.inl ⟨by rfl, ?_⟩) ?_ ?_
         rotate_left
         ·intro w'
          go_simp
          with_reducible rfl
         rotate_left
         ·simp only [Act.put, List.setIfInBounds_toArray, List.set_cons_zero, List.set_cons_succ, i64_w, i32_w]
          rfl
         exact norm_ (by simp only [putAll, Act.put, List.setIfInBounds_toArray, List.set_cons_zero, List.set_cons_succ, errW_none, errW_some]) (hCont (.slice Ao71 t217.length co71, v222, gb225) _ ⟨hHeld, (by (with_reducible repeat (first | apply Kd.R_alloc | apply Kd.R_drewN | apply Kd.R_drew)); exact Kd.R_mono HO219.out (fun _ hk => ⟨hk.2, hk.1.2⟩)), (by (with_reducible repeat (first | apply Kd.R_alloc | apply Kd.R_drewN | apply Kd.R_drew)); exact Kd.R_mono HO223.out (fun _ hk => ⟨hk.2, hk.1.2⟩)), (by (with_reducible repeat (first | apply Kd.R_alloc | apply Kd.R_drewN | apply Kd.R_drew)); exact Kd.R_mono HO_214001.out (fun _ hk => ⟨hk.1.2, hk.2⟩)), pk, pk, pk, GW225.out, GE225.out, NB207_225.out, NB225_207.out, NB213_225.out, NB225_213.out, pw⟩)
        skip
        refine box_step ?hg (N := 9) ?hd (cs := #[.int .i64 0, .slice none 0 0]) (t := 37) ?hr ?_; (case hd => rfl); (case hg => rfl); (case hr => first | (go_simp; done) | (go_simp; rfl))
        intro gb225 hg w69 hbox hb
        have n0_ := am (Kd.R_below (by (with_reducible repeat (first | apply Kd.R_alloc | apply Kd.R_drewN | apply Kd.R_drew)); exact HO_214001.out) hb)
        have n1_ := bb BK207 hb
        have n2_ := bb BK213 hb
        have n3_ := am (below_step pw hb)
        have n4_ := am (hbox)
        have n5_ := am ((by rw [hg]; exact (below_size pw) : w.heap.size ≤ gb225))
        have n6_ := am ((by rw [hg]; exact (below_size pw) : w.heap.size ≤ gb225))
        have n7_ := am ((by rw [hg]; exact Nat.ne_of_lt (blk_lt pk) : gb207 ≠ gb225))
        have n8_ := am ((by rw [hg]; exact Nat.ne_of_gt (blk_lt pk) : gb225 ≠ gb207))
        have n9_ := am ((by rw [hg]; exact Nat.ne_of_lt (blk_lt pk) : gb213 ≠ gb225))
        have n10_ := am ((by rw [hg]; exact Nat.ne_of_gt (blk_lt pk) : gb225 ≠ gb213))
        clear HO_214001 BK207 BK213 HB
        revert n0_ n1_ n2_ n3_ n4_ n5_ n6_ n7_ n8_ n9_ n10_
        intro HO_214001 BK207 BK213 HB BK225 GW225 GE225 NB207_225 NB225_207 NB213_225 NB225_213
        clear hb hbox hg
        refine hK.out _ _ ⟨bc BK213 0, bc BK213 1, ((HB.out.cell (World.block_lt_of_cell? w _ hw215_0)).trans hw215_0), ((HB.out.cell (World.block_lt_of_cell? w _ hw215_1)).trans hw215_1)⟩ (fun hHeld => ?_)
        clear hK K
        refine norm_ (a' := ?_) ?_ ?_
        rotate_left
        ·show Act.put _ (some 9) _ = _
         simp only [Act.put, List.setIfInBounds_toArray, List.set_cons_zero, List.set_cons_succ, i64_w, i32_w]
         rfl
        refine one_ (i := 5) (N := some 47) #[true, true, true, true, true, true, false, false, false, false, true, false, false] rfl rfl (one_of HT_.out kk) (by decide) (fun K hK => ?_)
        refine goes_ Tryd.func23 kk rfl #[.agg #[.int .i64 ((rd_T33 l1 x8_2).f0), .slice A215_1 ((rd_T33 l1 x8_2).f1).length c215_1]] (by rfl) rfl rfl (by (try simp only [List.map_toArray, List.map_cons, List.map_nil]); first | done | rfl | (simp only [List.length_drop, List.length_take]; rfl)) ?_
        with_reducible refine (L2_zoneOf.calls k2 ((rd_T33 l1 x8_2).f0) _ _ ((rd_T33 l1 x8_2).f1) t216 t217 _ ?side1 ?side2 A22.out).mono ?_
        (case side1 => repeat (first | exact (Kd.C_below HR215_1.out HB.out) | (with_reducible refine Kd.C_alloc ?_ _) | (with_reducible refine Kd.C_drewN ?_ _) | (with_reducible refine Kd.C_drew ?_)))
        (case side2 => exact HC215_1.out)
        rintro e w70 ⟨v218, rfl, ho0, hb⟩
        refine ⟨_, rfl, ?_⟩
        have n0_ := am (Kd.R_elder' (by (with_reducible repeat (first | apply Kd.R_alloc | apply Kd.R_drewN | apply Kd.R_drew)); exact HO_214001.out) (Kd.R_base ho0) hb)
        have n1_ := am (Kd.R_lower (Kd.R_new' ho0 (Kd.R_lt (by (with_reducible repeat (first | apply Kd.R_alloc | apply Kd.R_drewN | apply Kd.R_drew)); exact HO_214001.out))) (below_size pw))
        have n2_ := bb BK207 hb
        have n3_ := bb BK213 hb
        have n4_ := bb BK225 hb
        have n5_ := am (below_step pw hb)
        clear HO_214001 BK207 BK213 BK225 HB
        revert n0_ n1_ n2_ n3_ n4_ n5_
        intro HO_214001 HO219 BK207 BK213 BK225 HB
        (try clear hb)
        (try clear hb2)
        (try clear hk)
        (try clear hi)
        (try clear ho0)
        obtain ⟨Ao71, co71, eo71⟩ := Kd.R_slice HO219.out
        (first | subst eo71 | (injection eo71 with f1_ f2_ f3_; have f4_ := f1_.symm; have f5_ := f3_.symm; clear f1_ f2_ f3_; subst f4_; subst f5_))
        refine hK.out _ _ ⟨bc BK213 0, bc BK213 1, ((HB.out.cell (World.block_lt_of_cell? w _ hw215_0)).trans hw215_0), ((HB.out.cell (World.block_lt_of_cell? w _ hw215_1)).trans hw215_1)⟩ (fun hHeld => ?_)
        clear hK K
        refine norm_ (a' := ?_) ?_ ?_
        rotate_left
        ·show Act.put _ (some 47) _ = _
         simp only [Act.put, List.setIfInBounds_toArray, List.set_cons_zero, List.set_cons_succ, i64_w, i32_w]
         rfl
        refine one_ (i := 6) (N := some 48) #[true, true, true, true, true, true, true, false, false, false, true, false, false] rfl rfl (one_of HT_.out kk) (by decide) (fun K hK => ?_)
        refine goes_ Tryd.func30 kk rfl #[.agg #[.int .i64 x214000_2, .slice Ao67 x214001_2.length co67], .agg #[.int .i64 t216, .slice Ao71 t217.length co71]] (by rfl) rfl rfl (by (try simp only [List.map_toArray, List.map_cons, List.map_nil]); first | done | rfl | (simp only [List.length_drop, List.length_take]; rfl)) ?_
        with_reducible refine (zone_Widen.calls x214000_2 _ _ x214001_2 t216 _ _ t217 t220 t221 (some q226) _ ?side1 ?side2 ?side3 ?side4 A23.out (am (ErrAt.below hE2.out pw)).out (am (ErrAt.below hE3.out pw)).out).mono ?_
        (case side1 => repeat (first | exact (Kd.R_reads' HO_214001.out).2.2 | (with_reducible refine Kd.C_alloc ?_ _) | (with_reducible refine Kd.C_drewN ?_ _) | (with_reducible refine Kd.C_drew ?_)))
        (case side2 => exact (Kd.R_reads' HO_214001.out).2.1)
        (case side3 => repeat (first | exact (Kd.R_reads' HO219.out).2.2 | (with_reducible refine Kd.C_alloc ?_ _) | (with_reducible refine Kd.C_drewN ?_ _) | (with_reducible refine Kd.C_drew ?_)))
        (case side4 => exact (Kd.R_reads' HO219.out).2.1)
        rintro e w72 ⟨v222, rfl, ho0, hb⟩
        refine ⟨_, rfl, ?_⟩
        have n0_ := am (Kd.R_elder' (by (with_reducible repeat (first | apply Kd.R_alloc | apply Kd.R_drewN | apply Kd.R_drew)); exact HO_214001.out) (Kd.R_base ho0) hb)
        have n1_ := am (Kd.R_elder' (by (with_reducible repeat (first | apply Kd.R_alloc | apply Kd.R_drewN | apply Kd.R_drew)); exact HO219.out) (Kd.R_base ho0) hb)
        have n2_ := am (Kd.R_lower (Kd.R_new' (Kd.R_new' ho0 (Kd.R_lt (by (with_reducible repeat (first | apply Kd.R_alloc | apply Kd.R_drewN | apply Kd.R_drew)); exact HO_214001.out))) (Kd.R_lt (by (with_reducible repeat (first | apply Kd.R_alloc | apply Kd.R_drewN | apply Kd.R_drew)); exact HO219.out))) (below_size pw))
        have n3_ := bb BK207 hb
        have n4_ := bb BK213 hb
        have n5_ := bb BK225 hb
        have n6_ := am (below_step pw hb)
        clear HO_214001 HO219 BK207 BK213 BK225 HB
        revert n0_ n1_ n2_ n3_ n4_ n5_ n6_
        intro HO_214001 HO219 HO223 BK207 BK213 BK225 HB
        (try clear hb)
        (try clear hb2)
        (try clear hk)
        (try clear hi)
        (try clear ho0)
        (try simp only [errW_none, errW_some])
        refine hK.out _ _ ⟨bc BK213 0, bc BK213 1, ((HB.out.cell (World.block_lt_of_cell? w _ hw215_0)).trans hw215_0), ((HB.out.cell (World.block_lt_of_cell? w _ hw215_1)).trans hw215_1)⟩ (fun hHeld => ?_)
        clear hK K
        refine norm_ (a' := ?_) ?_ ?_
        rotate_left
        ·show Act.put _ (some 48) _ = _
         simp only [Act.put, List.setIfInBounds_toArray, List.set_cons_zero, List.set_cons_succ, i64_w, i32_w]
         rfl
        refine pure_ (i := 7) (N := some 41) (v := ?_) (a' := ?_) #[true, true, true, true, true, true, true, true, false, false, true, false, false] rfl rfl (any_of HT_.out kk) (fun _ _ _ h => h) (Or.inl ⟨by rfl, ?_⟩) ?_ ?_
        rotate_left
        ·intro w'
         go_simp
         with_reducible rfl
        rotate_left
        ·simp only [Act.put, List.setIfInBounds_toArray, List.set_cons_zero, List.set_cons_succ, i64_w, i32_w]
         rfl
        refine pure_ (i := 8) (N := some 49) (v := ?_) (a' := ?_) #[true, true, true, true, true, true, true, true, true, false, true, false, false] rfl rfl (any_of HT_.out kk) (fun _ _ _ h => h) (Or.inl ⟨by rfl, ?_⟩) ?_ ?_
        rotate_left
        ·intro w'
         go_simp
         with_reducible rfl
        rotate_left
        ·simp only [Act.put, List.setIfInBounds_toArray, List.set_cons_zero, List.set_cons_succ, i64_w, i32_w]
         rfl
        refine pure_ (i := 9) (N := some 50) (v := ?_) (a' := ?_) #[true, true, true, true, true, true, true, true, true, true, true, false, false] rfl rfl (any_of HT_.out kk) (fun _ _ _ h => h) (Or.inl ⟨by rfl, ?_⟩) ?_ ?_
        rotate_left
        ·intro w'
         go_simp
         with_reducible rfl
        rotate_left
        ·simp only [Act.put, List.setIfInBounds_toArray, List.set_cons_zero, List.set_cons_succ, i64_w, i32_w]
         rfl
        exact norm_ (by simp only [putAll, Act.put, List.setIfInBounds_toArray, List.set_cons_zero, List.set_cons_succ, errW_none, errW_some]) (hCont (.slice Ao71 t217.length co71, v222, gb225) _ ⟨hHeld, (by (with_reducible repeat (first | apply Kd.R_alloc | apply Kd.R_drewN | apply Kd.R_drew)); exact Kd.R_mono HO219.out (fun _ hk => ⟨hk.2, hk.1.2⟩)), (by (with_reducible repeat (first | apply Kd.R_alloc | apply Kd.R_drewN | apply Kd.R_drew)); exact Kd.R_mono HO223.out (fun _ hk => ⟨hk.2, hk.1.2⟩)), (by (with_reducible repeat (first | apply Kd.R_alloc | apply Kd.R_drewN | apply Kd.R_drew)); exact Kd.R_mono HO_214001.out (fun _ hk => ⟨hk.1.2, hk.2⟩)), pk, pk, pk, GW225.out, GE225.out, NB207_225.out, NB225_207.out, NB213_225.out, NB225_213.out, pw⟩)
       rintro ⟨v218, v222, gb225⟩ w73 ⟨hS_, h0_, h1_, h2_, h3_, h4_, h5_, h6_, h7_, h8_, h9_, h10_, h11_, h12_⟩
       have n0_ : Aside0 (Kd.R k42 42 w73 w.heap.size (fun k_ => some k_ ≠ (v222 : Value).ownBlock ∧ some k_ ≠ (.slice Ao67 x214001_2.length co67 : Value).ownBlock) v218 t217) := ⟨h0_⟩
       have n1_ : Aside0 (Kd.R k42 42 w73 w.heap.size (fun k_ => some k_ ≠ (v218 : Value).ownBlock ∧ some k_ ≠ (.slice Ao67 x214001_2.length co67 : Value).ownBlock) v222 t221) := ⟨h1_⟩
       have n2_ : Aside0 (Kd.R k42 42 w73 w.heap.size (fun k_ => some k_ ≠ (v218 : Value).ownBlock ∧ some k_ ≠ (v222 : Value).ownBlock) (.slice Ao67 x214001_2.length co67) x214001_2) := ⟨h2_⟩
       have n3_ : Aside0 (w73.heap[gb207]? = some (.cells #[.int .i64 a0_0, .slice A0_1 l0_1.length c0_1] 33 (0, 0))) := ⟨h3_⟩
       have n4_ : Aside0 (w73.heap[gb213]? = some (.cells #[.int .i64 x214000_2, .slice Ao67 x214001_2.length co67] 37 (0, 0))) := ⟨h4_⟩
       have n5_ : Aside0 (w73.heap[gb225]? = some (.cells #[.int .i64 0, .slice none 0 0] 37 (0, 0))) := ⟨h5_⟩
       have n6_ : Aside0 (w.heap.size ≤ gb225) := ⟨h6_⟩
       have n7_ : Aside0 (w.heap.size ≤ gb225) := ⟨h7_⟩
       have n8_ : Aside0 (gb207 ≠ gb225) := ⟨h8_⟩
       have n9_ : Aside0 (gb225 ≠ gb207) := ⟨h9_⟩
       have n10_ : Aside0 (gb213 ≠ gb225) := ⟨h10_⟩
       have n11_ : Aside0 (gb225 ≠ gb213) := ⟨h11_⟩
       have n12_ : Aside0 (Below w.heap.size w w73) := ⟨h12_⟩
       clear HO_214001
       clear BK207
       clear BK213
       clear HB
       clear h0_ h1_ h2_ h3_ h4_ h5_ h6_ h7_ h8_ h9_ h10_ h11_ h12_
       revert n0_ n1_ n2_ n3_ n4_ n5_ n6_ n7_ n8_ n9_ n10_ n11_ n12_
       intro HO219 HO223 HO_214001 BK207 BK213 BK225 GW225 GE225 NB207_225 NB225_207 NB213_225 NB225_213 HB
       have hHeld : w73.cell? ⟨gb213, 0, none⟩ = some (.int .i64 x214000_2) ∧ w73.cell? ⟨gb213, 1, none⟩ = some (.slice Ao67 x214001_2.length co67) ∧ w73.cell? (ad214.add ((x8_2).toNat * 2)) = some (.int .i64 ((rd_T33 l1 x8_2).f0)) ∧ w73.cell? ⟨(ad214.add ((x8_2).toNat * 2)).block, (ad214.add ((x8_2).toNat * 2)).off + 1, none⟩ = some (.slice A215_1 ((rd_T33 l1 x8_2).f1).length c215_1) := hS_
       obtain ⟨Ao75, co75, eo75⟩ := Kd.R_slice HO223.out
       (first | subst eo75 | (injection eo75 with f1_ f2_ f3_; have f4_ := f1_.symm; have f5_ := f3_.symm; clear f1_ f2_ f3_; subst f4_; subst f5_))
       refine norm_ (a' := ?_) ?_ ?_
       rotate_left
       ·simp only [putAll, Act.put, List.setIfInBounds_toArray, List.set_cons_zero, List.set_cons_succ]
        rfl
       refine one_ (i := 11) (N := none) #[true, true, true, true, true, true, true, true, true, true, true, true, false] rfl rfl (one_of HT_.out kk) (by decide) (fun K hK => ?_)
       have hs74 : w73.cell? ⟨gb225, 0, none⟩ = some (.int .i64 0) := bc BK225 0
       have hfs74 := blk_frozen BK225.out 0
       have hns74_0 := NB207_225.out
       have hns74_1 := NB213_225.out
       have hms74_0 := NB225_207.out
       have hms74_1 := NB225_213.out
       have hs76 : w73.cell? ⟨gb225, 1, none⟩ = some (.slice none 0 0) := bc BK225 1
       have hfs76 := blk_frozen BK225.out 1
       have hns76_0 := NB207_225.out
       have hns76_1 := NB213_225.out
       have hms76_0 := NB225_207.out
       have hms76_1 := NB225_213.out
       refine skip_ (w1 := ?_) (by rfl) rfl ?_ ?_
       rotate_left
       ·go_simp
        rfl
       refine hK.out _ _ ⟨((cell_far (p := ⟨gb225, _, none⟩) NB213_225.out _).trans (((cell_far (p := ⟨gb225, _, none⟩) NB213_225.out _).trans (hHeld.1)))), ((cell_far (p := ⟨gb225, _, none⟩) NB213_225.out _).trans (((cell_far (p := ⟨gb225, _, none⟩) NB213_225.out _).trans (hHeld.2.1)))), ((cell_far (p := ⟨gb225, _, none⟩) (by first | exact Nat.ne_of_lt (Nat.lt_of_lt_of_le (by have := World.block_lt_of_cell? _ _ hw215_0; first | rwa [add_block] at this | exact this) GW225.out) | (rw [add_block]; exact Nat.ne_of_lt (Nat.lt_of_lt_of_le (by have := World.block_lt_of_cell? _ _ hw215_0; first | rwa [add_block] at this | exact this) GW225.out)) | (show (Addr.add _ _).block ≠ _; rw [add_block]; exact Nat.ne_of_lt (Nat.lt_of_lt_of_le (by have := World.block_lt_of_cell? _ _ hw215_0; first | rwa [add_block] at this | exact this) GW225.out)) | (dsimp only; exact Nat.ne_of_lt (Nat.lt_of_lt_of_le (by have := World.block_lt_of_cell? _ _ hw215_0; first | rwa [add_block] at this | exact this) GW225.out))) _).trans (((cell_far (p := ⟨gb225, _, none⟩) (by first | exact Nat.ne_of_lt (Nat.lt_of_lt_of_le (by have := World.block_lt_of_cell? _ _ hw215_0; first | rwa [add_block] at this | exact this) GW225.out) | (rw [add_block]; exact Nat.ne_of_lt (Nat.lt_of_lt_of_le (by have := World.block_lt_of_cell? _ _ hw215_0; first | rwa [add_block] at this | exact this) GW225.out)) | (show (Addr.add _ _).block ≠ _; rw [add_block]; exact Nat.ne_of_lt (Nat.lt_of_lt_of_le (by have := World.block_lt_of_cell? _ _ hw215_0; first | rwa [add_block] at this | exact this) GW225.out)) | (dsimp only; exact Nat.ne_of_lt (Nat.lt_of_lt_of_le (by have := World.block_lt_of_cell? _ _ hw215_0; first | rwa [add_block] at this | exact this) GW225.out))) _).trans (hHeld.2.2.1)))), ((cell_far (p := ⟨gb225, _, none⟩) (by first | exact Nat.ne_of_lt (Nat.lt_of_lt_of_le (by have := World.block_lt_of_cell? _ _ hw215_1; first | rwa [add_block] at this | exact this) GW225.out) | (rw [add_block]; exact Nat.ne_of_lt (Nat.lt_of_lt_of_le (by have := World.block_lt_of_cell? _ _ hw215_1; first | rwa [add_block] at this | exact this) GW225.out)) | (show (Addr.add _ _).block ≠ _; rw [add_block]; exact Nat.ne_of_lt (Nat.lt_of_lt_of_le (by have := World.block_lt_of_cell? _ _ hw215_1; first | rwa [add_block] at this | exact this) GW225.out)) | (dsimp only; exact Nat.ne_of_lt (Nat.lt_of_lt_of_le (by have := World.block_lt_of_cell? _ _ hw215_1; first | rwa [add_block] at this | exact this) GW225.out))) _).trans (((cell_far (p := ⟨gb225, _, none⟩) (by first | exact Nat.ne_of_lt (Nat.lt_of_lt_of_le (by have := World.block_lt_of_cell? _ _ hw215_1; first | rwa [add_block] at this | exact this) GW225.out) | (rw [add_block]; exact Nat.ne_of_lt (Nat.lt_of_lt_of_le (by have := World.block_lt_of_cell? _ _ hw215_1; first | rwa [add_block] at this | exact this) GW225.out)) | (show (Addr.add _ _).block ≠ _; rw [add_block]; exact Nat.ne_of_lt (Nat.lt_of_lt_of_le (by have := World.block_lt_of_cell? _ _ hw215_1; first | rwa [add_block] at this | exact this) GW225.out)) | (dsimp only; exact Nat.ne_of_lt (Nat.lt_of_lt_of_le (by have := World.block_lt_of_cell? _ _ hw215_1; first | rwa [add_block] at this | exact this) GW225.out))) _).trans (hHeld.2.2.2))))⟩ (fun hHeld => ?_)
       clear hK K
       refine pure_ (i := 12) (N := some 10) (v := ?_) (a' := ?_) #[true, true, true, true, true, true, true, true, true, true, true, true, true] rfl rfl (any_of HT_.out kk) (fun _ _ _ h => h) (Or.inl ⟨by rfl, ?_⟩) ?_ ?_
       rotate_left
       ·intro w'
        go_simp
        with_reducible rfl
       rotate_left
       ·simp only [Act.put, List.setIfInBounds_toArray, List.set_cons_zero, List.set_cons_succ, i64_w, i32_w]
        rfl
       refine done_ (done_of HT_.out kk) ?_
       (try simp only [errW_none, errW_some])
       try go_wp2
       go_ret
       exact ⟨pe, pw⟩
     rw [if_neg c20] at H
     exact absurd H (by simp)
    rw [if_neg c19] at H
    have c19b0 : decide (x8_2 < (l1.length : Int)) = false := decide_eq_false c19
    clear c19
    as_aux_lemma =>
     obtain rfl := Option.some.inj H
     have hnb77 := NB207_213.out
     have hnc77 := NB213_207.out
     have hcz78_0 : wr.cell? ⟨gb207, 0, none⟩ = some (.int .i64 a0_0) := bc BK207 0
     have hcz78_1 : wr.cell? ⟨gb207, 1, none⟩ = some (.slice A0_1 l0_1.length c0_1) := bc BK207 1
     have hfz78_0 := blk_frozen BK207.out 0
     have hfz78_1 := blk_frozen BK207.out 1
     go_wp2
     go_ret
     exact ⟨pe, pw⟩

end Go.Proofs.YtjpboodkmhikpaaDoor.Z
