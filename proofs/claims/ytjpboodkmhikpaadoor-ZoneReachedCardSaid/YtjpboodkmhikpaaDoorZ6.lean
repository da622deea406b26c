-- Written by wip/xprint.py (the session's program over the kit's print).
import Derived.Test.YtjpboodkmhikpaaDoorEb
import Derived.Test.YtjpboodkmhikpaaDoorZk
import Derived.Test.YtjpboodkmhikpaaDoorZ0
import Derived.Test.YtjpboodkmhikpaaDoorZ3
import Derived.Test.YtjpboodkmhikpaaDoorZ4
import Derived.Test.YtjpboodkmhikpaaDoorZ5
namespace Go.Proofs.YtjpboodkmhikpaaDoor.Z
open Go.RowKit Go.Proofs.YtjpboodkmhikpaaDoorW.PrintWords Go.Proofs.YtjpboodkmhikpaaDoorW.PrintLast Go.Proofs.YtjpboodkmhikpaaDoorW.PrintMore Go.Proofs.Rcg
attribute [local go_sem] max2_int min2_int max_two min_two max_three min_three max_four min_four   -- for this text's walks alone
set_option linter.unusedVariables false
set_option linter.unusedSimpArgs false

/-! ### L2_ZoneReached: function 4 -/
mutual
def L2_ZoneReached.j0 : Nat → Int → Int → Bool → Bool → Int → List (S112) → Option (Bool)
 | 0, _, _, _, _, _, _ => none
 | k + 1, x1, x2, x7, x33, x155000, x155001 => if x33 = true then (some x7) else ((L2_zoneOf.f k x155000 x155001).bind fun bt157 => ((zone_Close.f bt157.1 bt157.2).bind fun bt161 => (if bt161.2.2.2.isNone = true then (if bt161.2.2.1 = true then (if x1 < 0 then (L2_ZoneReached.j1 k x1 x2 true x155000 x155001 bt161.1 bt161.2.1) else (if x2 < 0 then (L2_ZoneReached.j1 k x1 x2 true x155000 x155001 bt161.1 bt161.2.1) else (if x1 > x155000 then (L2_ZoneReached.j1 k x1 x2 true x155000 x155001 bt161.1 bt161.2.1) else (L2_ZoneReached.j1 k x1 x2 (decide (x2 > x155000)) x155000 x155001 bt161.1 bt161.2.1)))) else (L2_ZoneReached.j1 k x1 x2 true x155000 x155001 bt161.1 bt161.2.1)) else (L2_ZoneReached.j1 k x1 x2 true x155000 x155001 bt161.1 bt161.2.1))))
def L2_ZoneReached.j1 : Nat → Int → Int → Bool → Int → List (S112) → Int → List (S42) → Option (Bool)
 | 0, _, _, _, _, _, _, _ => none
 | k + 1, x1, x2, x67, x155000, x155001, x168000, x168001 => if x67 = true then (some true) else (if x1 = x2 then (L2_ZoneReached.j2 k x1 x2 true x155000 x155001 x168000 x168001) else (L2_ZoneReached.j2 k x1 x2 ((x168001.length : Int) != (wrap64 ((wrap64 (x155000 + 1)) * (wrap64 (x155000 + 1))))) x155000 x155001 x168000 x168001))
def L2_ZoneReached.j2 : Nat → Int → Int → Bool → Int → List (S112) → Int → List (S42) → Option (Bool)
 | 0, _, _, _, _, _, _, _ => none
 | k + 1, x1, x2, x83, x155000, x155001, x168000, x168001 => if x83 = true then (some true) else (if 0 ≤ (wrap64 ((wrap64 (x1 * (wrap64 (x155000 + 1)))) + x2)) then (if (wrap64 ((wrap64 (x1 * (wrap64 (x155000 + 1)))) + x2)) < (x168001.length : Int) then (if ((rd_T42 x168001 (wrap64 ((wrap64 (x1 * (wrap64 (x155000 + 1)))) + x2))).f0 = true) then ((L2_zoneOf.f k x155000 x155001).bind fun bt183 => ((zone_Guard.f bt183.1 bt183.2 x2 x1 (wrap64 (-((rd_T42 x168001 (wrap64 ((wrap64 (x1 * (wrap64 (x155000 + 1)))) + x2))).f1)))).bind fun bt187 => ((L2_zoneOf.f k x155000 x155001).bind fun bt194 => ((zone_Guard.f bt194.1 bt194.2 x2 x1 (wrap64 ((wrap64 (-((rd_T42 x168001 (wrap64 ((wrap64 (x1 * (wrap64 (x155000 + 1)))) + x2))).f1))) - 1))).bind fun bt198 => (if bt187.2.2.2.isNone = true then (if bt187.2.2.1 = true then (if bt187.1 = x155000 then (if bt198.2.2.2.isNone = true then (if bt198.2.2.1 = true then (none) else (some (bt198.1 == 0))) else (none)) else (none)) else (none)) else (none)))))) else ((L2_zoneOf.f k x155000 x155001).bind fun bt171 => ((zone_Guard.f bt171.1 bt171.2 x2 x1 (-33554432)).bind fun bt175 => (if bt175.2.2.2.isNone = true then (if bt175.2.2.1 = true then (some (bt175.1 == x155000)) else (none)) else (none))))) else (none)) else (none))
end
def L2_ZoneReached.f (k : Nat) (a0_0 : Int) (l0_1 : List (S112)) (a1 : Int) (a2 : Int) : Option (Bool) := (L2_free.f k).bind fun t155 => (if t155 = true then (if (l0_1.length : Int) > 100 then (L2_ZoneReached.j0 k a1 a2 t155 true a0_0 l0_1) else ((L2_near.f k l0_1).bind fun t156 => (L2_ZoneReached.j0 k a1 a2 t155 (!t156) a0_0 l0_1))) else (L2_ZoneReached.j0 k a1 a2 t155 true a0_0 l0_1))
theorem L2_ZoneReached.mono_l : ∀ k, (∀ y0 y1 y2 y3 y4 y5, LeO (L2_ZoneReached.j0 k y0 y1 y2 y3 y4 y5) (L2_ZoneReached.j0 (k + 1) y0 y1 y2 y3 y4 y5)) ∧ (∀ y0 y1 y2 y3 y4 y5 y6, LeO (L2_ZoneReached.j1 k y0 y1 y2 y3 y4 y5 y6) (L2_ZoneReached.j1 (k + 1) y0 y1 y2 y3 y4 y5 y6)) ∧ (∀ y0 y1 y2 y3 y4 y5 y6, LeO (L2_ZoneReached.j2 k y0 y1 y2 y3 y4 y5 y6) (L2_ZoneReached.j2 (k + 1) y0 y1 y2 y3 y4 y5 y6))
 | 0 => ⟨fun _ _ _ _ _ _ r h => by simp [L2_ZoneReached.j0] at h, fun _ _ _ _ _ _ _ r h => by simp [L2_ZoneReached.j1] at h, fun _ _ _ _ _ _ _ r h => by simp [L2_ZoneReached.j2] at h⟩
 | k + 1 => by
  obtain ⟨ih0, ih1, ih2⟩ := L2_ZoneReached.mono_l k
  refine ⟨?_, ?_, ?_⟩
  ·intro y0 y1 y2 y3 y4 y5
   unfold L2_ZoneReached.j0
   repeat' first
   | (with_reducible exact ih0 _ _ _ _ _ _)
   | (with_reducible exact ih1 _ _ _ _ _ _ _)
   | (with_reducible exact ih2 _ _ _ _ _ _ _)
   | (with_reducible exact L2_free.mono _)
   | (with_reducible exact L2_near.mono _ _)
   | (with_reducible exact L2_zoneOf.mono _ _ _)
   | (with_reducible exact LeO.refl _)
   | (with_reducible exact LeO.none _)
   | (with_reducible refine LeO.ite ?_ ?_)
   | (with_reducible refine LeO.bind ?_ (fun _ => ?_))
   | exact ih0 _ _ _ _ _ _
   | exact ih1 _ _ _ _ _ _ _
   | exact ih2 _ _ _ _ _ _ _
   | exact L2_free.mono _
   | exact L2_near.mono _ _
   | exact L2_zoneOf.mono _ _ _
   | exact LeO.none _
   | refine LeO.ite ?_ ?_
   | refine LeO.bind ?_ (fun _ => ?_)
  ·intro y0 y1 y2 y3 y4 y5 y6
   unfold L2_ZoneReached.j1
   repeat' first
   | (with_reducible exact ih0 _ _ _ _ _ _)
   | (with_reducible exact ih1 _ _ _ _ _ _ _)
   | (with_reducible exact ih2 _ _ _ _ _ _ _)
   | (with_reducible exact L2_free.mono _)
   | (with_reducible exact L2_near.mono _ _)
   | (with_reducible exact L2_zoneOf.mono _ _ _)
   | (with_reducible exact LeO.refl _)
   | (with_reducible exact LeO.none _)
   | (with_reducible refine LeO.ite ?_ ?_)
   | (with_reducible refine LeO.bind ?_ (fun _ => ?_))
   | exact ih0 _ _ _ _ _ _
   | exact ih1 _ _ _ _ _ _ _
   | exact ih2 _ _ _ _ _ _ _
   | exact L2_free.mono _
   | exact L2_near.mono _ _
   | exact L2_zoneOf.mono _ _ _
   | exact LeO.none _
   | refine LeO.ite ?_ ?_
   | refine LeO.bind ?_ (fun _ => ?_)
  intro y0 y1 y2 y3 y4 y5 y6
  unfold L2_ZoneReached.j2
  repeat' first
  | (with_reducible exact ih0 _ _ _ _ _ _)
  | (with_reducible exact ih1 _ _ _ _ _ _ _)
  | (with_reducible exact ih2 _ _ _ _ _ _ _)
  | (with_reducible exact L2_free.mono _)
  | (with_reducible exact L2_near.mono _ _)
  | (with_reducible exact L2_zoneOf.mono _ _ _)
  | (with_reducible exact LeO.refl _)
  | (with_reducible exact LeO.none _)
  | (with_reducible refine LeO.ite ?_ ?_)
  | (with_reducible refine LeO.bind ?_ (fun _ => ?_))
  | exact ih0 _ _ _ _ _ _
  | exact ih1 _ _ _ _ _ _ _
  | exact ih2 _ _ _ _ _ _ _
  | exact L2_free.mono _
  | exact L2_near.mono _ _
  | exact L2_zoneOf.mono _ _ _
  | exact LeO.none _
  | refine LeO.ite ?_ ?_
  | refine LeO.bind ?_ (fun _ => ?_)
theorem L2_ZoneReached.mono : ∀ a0 a1 a2 a3 k, LeO (L2_ZoneReached.f k a0 a1 a2 a3) (L2_ZoneReached.f (k + 1) a0 a1 a2 a3) := by
 intro a0 a1 a2 a3 k
 obtain ⟨ih0, ih1, ih2⟩ := L2_ZoneReached.mono_l k
 unfold L2_ZoneReached.f
 repeat' first
   | (with_reducible exact ih0 _ _ _ _ _ _)
   | (with_reducible exact ih1 _ _ _ _ _ _ _)
   | (with_reducible exact ih2 _ _ _ _ _ _ _)
   | (with_reducible exact L2_free.mono _)
   | (with_reducible exact L2_near.mono _ _)
   | (with_reducible exact L2_zoneOf.mono _ _ _)
   | (with_reducible exact LeO.refl _)
   | (with_reducible exact LeO.none _)
   | (with_reducible refine LeO.ite ?_ ?_)
   | (with_reducible refine LeO.bind ?_ (fun _ => ?_))
   | exact ih0 _ _ _ _ _ _
   | exact ih1 _ _ _ _ _ _ _
   | exact ih2 _ _ _ _ _ _ _
   | exact L2_free.mono _
   | exact L2_near.mono _ _
   | exact L2_zoneOf.mono _ _ _
   | exact LeO.none _
   | refine LeO.ite ?_ ?_
   | refine LeO.bind ?_ (fun _ => ?_)
def L2_ZoneReached.T13 : Bool × List (List Nat × List Nat) := (true, [([], []), ([0], [0]), ([], []), ([], []), ([], []), ([4], [4]), ([5], [5]), ([1, 2, 3, 6, 1], [1, 2, 3, 6]), ([7], [7]), ([8], [8]), ([8], [8]), ([8], [8]), ([], []), ([12, 9, 7, 0, 1, 2, 3, 4, 5, 6, 7, 8, 9, 12], [9, 12]), ([10, 13, 0, 1, 2, 3, 4, 5, 6, 7, 8, 9, 10, 12, 13], [10]), ([11, 14, 0, 1, 2, 3, 4, 5, 6, 7, 8, 9, 10, 11, 12, 13, 14], [11])])
def L2_ZoneReached.B13 : List Nat := [0, 1, 0, 0, 0, 16, 48, 127, 255, 511, 511, 511, 0, 5119, 14335, 32767]
theorem L2_ZoneReached.tab13 : rtab .any (opsOf Tryd.f4 13) = L2_ZoneReached.T13 := by kernel_rfl
theorem L2_ZoneReached.bits13 : waitsOk L2_ZoneReached.T13.2 L2_ZoneReached.B13 = true := by kernel_rfl
def L2_ZoneReached.T14 : Bool × List (List Nat × List Nat) := (true, [([], []), ([0], [0]), ([], []), ([], []), ([], []), ([4], [4]), ([5], [5]), ([6], [6]), ([1, 2, 3, 7, 1], [1, 2, 3, 7]), ([8], [8]), ([9], [9]), ([9], [9]), ([9], [9]), ([], []), ([13, 10, 8, 0, 1, 2, 3, 4, 5, 6, 7, 8, 9, 10, 13], [10, 13]), ([11, 14, 0, 1, 2, 3, 4, 5, 6, 7, 8, 9, 10, 11, 13, 14], [11]), ([12, 15, 0, 1, 2, 3, 4, 5, 6, 7, 8, 9, 10, 11, 12, 13, 14, 15], [12])])
def L2_ZoneReached.B14 : List Nat := [0, 1, 0, 0, 0, 16, 48, 112, 255, 511, 1023, 1023, 1023, 0, 10239, 28671, 65535]
theorem L2_ZoneReached.tab14 : rtab .any (opsOf Tryd.f4 14) = L2_ZoneReached.T14 := by kernel_rfl
theorem L2_ZoneReached.bits14 : waitsOk L2_ZoneReached.T14.2 L2_ZoneReached.B14 = true := by kernel_rfl
set_option maxHeartbeats 8000000 in
set_option maxRecDepth 100000 in
theorem L2_ZoneReached.calls [EA] (k : Nat) (a0_0 : Int) (A0_1 : Option Addr) (c0_1 : Nat) (l0_1 : List (S112)) (a1 : Int) (a2 : Int) (r : Bool) (w : World) (hr0_1 : Kd.C k112 w A0_1 l0_1.length l0_1) (hc0_1 : l0_1.length ≤ c0_1) (h : L2_ZoneReached.f k a0_0 l0_1 a1 a2 = some r) (h2_ : ErrAt 2 1 w) (h3_ : ErrAt 3 0 w) :
  Calls Tryd.prog 4 #[.agg #[.int .i64 a0_0, .slice A0_1 l0_1.length c0_1], .int .i64 a1, .int .i64 a2] w fun e w' => e = .returned (.bool r) ∧ Below w.heap.size w w' := by
 have hE2 := am h2_
 clear h2_
 have hE3 := am h3_
 clear h3_
 have hu33 := Tryd.underlying33
 have hu37 := Tryd.underlying37
 have hu42 := Tryd.underlying42
 have hu26 := Tryd.underlying26
 have HR0_1 := am hr0_1
 have HC0_1 := am hc0_1
 clear hr0_1 hc0_1
 have HB := am (Below.refl w.heap.size w)
 have H : ((L2_free.f k).bind fun t155 => (if t155 = true then (if (l0_1.length : Int) > 100 then (L2_ZoneReached.j0 k a1 a2 t155 true a0_0 l0_1) else ((L2_near.f k l0_1).bind fun t156 => (L2_ZoneReached.j0 k a1 a2 t155 (!t156) a0_0 l0_1))) else (L2_ZoneReached.j0 k a1 a2 t155 true a0_0 l0_1))) = some r := h
 clear h
 replace H := Option.bind_eq_some_iff.mp H
 obtain ⟨t155, A40, H⟩ := H
 replace H : (if t155 = true then (if (l0_1.length : Int) > 100 then (L2_ZoneReached.j0 k a1 a2 t155 true a0_0 l0_1) else ((L2_near.f k l0_1).bind fun t156 => (L2_ZoneReached.j0 k a1 a2 t155 (!t156) a0_0 l0_1))) else (L2_ZoneReached.j0 k a1 a2 t155 true a0_0 l0_1)) = some r := H
 have A4 := am A40
 clear A40
 have HC5 := am H
 clear H
 go_enter Tryd.func4, Tryd.ntmps4
 go_upto_region 2 with (first | ((with_reducible refine gate_dst (N := 3) rfl ?_); (try (refine gate_guard (by rfl) ?_; dsimp only)); refine box_event ?hg (N := 3) ?hd (cs := #[.int .i64 a0_0, .slice A0_1 l0_1.length c0_1]) (t := 33) ?hr ?_; (case hd => rfl); (case hg => rfl); (case hr => first | (go_simp; done) | (go_simp; rfl)); intro gb154 hg w6 hbox hb; have n0_ := am (below_step pw hb); have n1_ := am (hbox); have n2_ := am ((by rw [hg]; exact (below_size pw) : w.heap.size ≤ gb154)); have n3_ := am ((by rw [hg]; exact (below_size pw) : w.heap.size ≤ gb154)); clear HB; have HB := n0_; have BK154 := n1_; have GW154 := n2_; have GE154 := n3_; clear n0_ n1_ n2_ n3_; clear hb hbox hg) | ((with_reducible refine gate_callee (f := 20) rfl ?_); refine goesL_ (some 19) rfl rfl Tryd.func20 kk rfl #[] rfl (by (try simp only [List.map_toArray, List.map_cons, List.map_nil]); first | done | rfl | (simp only [List.length_drop, List.length_take]; rfl)) ?_; (with_reducible refine (L2_free.calls k  t155 _ A4.out (am (ErrAt.below hE2.out pw)).out (am (ErrAt.below hE3.out pw)).out).mono ?_); rintro e w7 ⟨rfl, hb⟩; refine ⟨_, rfl, ?_⟩; have n0_ := bb BK154 hb; have n1_ := am (below_step pw hb); clear BK154; clear HB; have BK154 := n0_; have HB := n1_; clear n0_ n1_; (try clear hb); (try clear hb2); (try clear hk); (try clear hi)))
 (try simp only [Act.put, List.setIfInBounds_toArray, List.set_cons_zero, List.set_cons_succ])
 go_cut [33] (fun v33 wc => ∃ (kq : Nat) (x33_4 : Bool), v33 = .bool x33_4 ∧ Aside0 (L2_ZoneReached.j0 kq a1 a2 t155 x33_4 a0_0 l0_1 = some r) ∧ Aside0 (kq ≤ k) ∧ Aside0 (wc.heap[gb154]? = some (.cells #[.int .i64 a0_0, (.slice A0_1 l0_1.length c0_1)] 33 (0, 0))) ∧ Aside0 (Below w.heap.size w wc))
 case first =>
  have H := HC5.out
  clear HC5
  by_cases c8 : t155 = true
  ·subst c8
   have H1 : (if (l0_1.length : Int) > 100 then (L2_ZoneReached.j0 k a1 a2 true true a0_0 l0_1) else ((L2_near.f k l0_1).bind fun t156 => (L2_ZoneReached.j0 k a1 a2 true (!t156) a0_0 l0_1))) = some r := by rw [if_pos rfl] at H; exact H
   clear H
   have H := H1
   clear H1
   by_cases c9 : (l0_1.length : Int) > 100
   ·rw [if_pos c9] at H
    have c9b0 : decide (100 < (l0_1.length : Int)) = true := decide_eq_true c9
    have c9b1 : decide (100 < l0_1.length) = true := decide_eq_true (by omega)
    clear c9
    (first | rw [c9b0] | (simp only [i64_w, i32_w]; rw [c9b0]) | skip)
    as_aux_lemma =>
     have H' := am H
     clear H
     have hcz10_0 : w7.cell? ⟨gb154, 0, none⟩ = some (.int .i64 a0_0) := bc BK154 0
     have hcz10_1 : w7.cell? ⟨gb154, 1, none⟩ = some (.slice A0_1 l0_1.length c0_1) := bc BK154 1
     have hfz10_0 := blk_frozen BK154.out 0
     have hfz10_1 := blk_frozen BK154.out 1
     go_wp2
     go_meet
     case rel => exact ⟨_, (true), pr, H', ⟨by first | omega | exact Nat.le_refl _⟩, ⟨pk⟩, ⟨pw⟩⟩
   rw [if_neg c9] at H
   have c9b0 : decide (100 < (l0_1.length : Int)) = false := decide_eq_false c9
   have c9b1 : decide (100 < l0_1.length) = false := decide_eq_false (by omega)
   clear c9
   (first | rw [c9b0] | (simp only [i64_w, i32_w]; rw [c9b0]) | skip)
   replace H := Option.bind_eq_some_iff.mp H
   obtain ⟨t156, A110, H⟩ := H
   replace H : (L2_ZoneReached.j0 k a1 a2 true (!t156) a0_0 l0_1) = some r := H
   have A11 := am A110
   clear A110
   as_aux_lemma =>
    have H' := am H
    clear H
    have hcz12_0 : w7.cell? ⟨gb154, 0, none⟩ = some (.int .i64 a0_0) := bc BK154 0
    have hcz12_1 : w7.cell? ⟨gb154, 1, none⟩ = some (.slice A0_1 l0_1.length c0_1) := bc BK154 1
    have hfz12_0 := blk_frozen BK154.out 0
    have hfz12_1 := blk_frozen BK154.out 1
    go_wp2_with (first | (go_at_call 21; (with_reducible refine (L2_near.calls k _ _ l0_1 t156 _ ?side1 ?side2 A11.out).mono ?_); (case side1 => repeat (first | exact (Kd.C_below HR0_1.out HB.out) | (with_reducible refine Kd.C_alloc ?_ _) | (with_reducible refine Kd.C_drewN ?_ _) | (with_reducible refine Kd.C_drew ?_))); (case side2 => exact HC0_1.out); rintro e w' ⟨rfl, ⟨nd, rfl⟩⟩))
    go_meet
    case rel => exact ⟨_, (!t156), pr, H', ⟨by first | omega | exact Nat.le_refl _⟩, ⟨pk⟩, ⟨pw⟩⟩
  replace c8 := Bool.eq_false_iff.mpr c8
  subst c8
  have H1 : (L2_ZoneReached.j0 k a1 a2 false true a0_0 l0_1) = some r := by rw [if_neg (show ¬ (false = true) by decide)] at H; exact H
  clear H
  have H := H1
  clear H1
  as_aux_lemma =>
   have H' := am H
   clear H
   go_wp2
   go_meet
   case rel => exact ⟨_, (true), pr, H', ⟨by first | omega | exact Nat.le_refl _⟩, ⟨pk⟩, ⟨pw⟩⟩
 clear HC5
 try clear c2
 try clear p2
 try clear c4
 try clear c8
 try clear c9
 try clear c9b0
 try clear c9b1
 try clear hcz10_0
 try clear hcz10_1
 try clear hcz12_0
 try clear hcz12_1
 try clear hfz10_0
 try clear hfz10_1
 try clear hfz12_0
 try clear hfz12_1
 obtain ⟨kq, x33_4, rfl, HA, HJ4, BK154, HB⟩ := hcut
 cases kq with
 | zero => exact absurd HA.out (by simp [L2_ZoneReached.j0])
 | succ kj4 =>
  have H := HA.out
  clear HA
  simp only [L2_ZoneReached.j0] at H
  by_cases c13 : x33_4 = true
  ·subst c13
   have H1 : (some t155) = some r := by rw [if_pos rfl] at H; exact H
   clear H
   have H := H1
   clear H1
   as_aux_lemma =>
    obtain rfl := Option.some.inj H
    go_wp2
    go_ret
    exact ⟨pe, pw⟩
  replace c13 := Bool.eq_false_iff.mpr c13
  subst c13
  have H1 : ((L2_zoneOf.f kj4 a0_0 l0_1).bind fun bt157 => ((zone_Close.f bt157.1 bt157.2).bind fun bt161 => (if bt161.2.2.2.isNone = true then (if bt161.2.2.1 = true then (if a1 < 0 then (L2_ZoneReached.j1 kj4 a1 a2 true a0_0 l0_1 bt161.1 bt161.2.1) else (if a2 < 0 then (L2_ZoneReached.j1 kj4 a1 a2 true a0_0 l0_1 bt161.1 bt161.2.1) else (if a1 > a0_0 then (L2_ZoneReached.j1 kj4 a1 a2 true a0_0 l0_1 bt161.1 bt161.2.1) else (L2_ZoneReached.j1 kj4 a1 a2 (decide (a2 > a0_0)) a0_0 l0_1 bt161.1 bt161.2.1)))) else (L2_ZoneReached.j1 kj4 a1 a2 true a0_0 l0_1 bt161.1 bt161.2.1)) else (L2_ZoneReached.j1 kj4 a1 a2 true a0_0 l0_1 bt161.1 bt161.2.1)))) = some r := by rw [if_neg (show ¬ (false = true) by decide)] at H; exact H
  clear H
  have H := H1
  clear H1
  replace H := Option.bind_eq_some_iff.mp H
  obtain ⟨⟨t157, t158⟩, A140, H⟩ := H
  replace H : ((zone_Close.f t157 t158).bind fun bt161 => (if bt161.2.2.2.isNone = true then (if bt161.2.2.1 = true then (if a1 < 0 then (L2_ZoneReached.j1 kj4 a1 a2 true a0_0 l0_1 bt161.1 bt161.2.1) else (if a2 < 0 then (L2_ZoneReached.j1 kj4 a1 a2 true a0_0 l0_1 bt161.1 bt161.2.1) else (if a1 > a0_0 then (L2_ZoneReached.j1 kj4 a1 a2 true a0_0 l0_1 bt161.1 bt161.2.1) else (L2_ZoneReached.j1 kj4 a1 a2 (decide (a2 > a0_0)) a0_0 l0_1 bt161.1 bt161.2.1)))) else (L2_ZoneReached.j1 kj4 a1 a2 true a0_0 l0_1 bt161.1 bt161.2.1)) else (L2_ZoneReached.j1 kj4 a1 a2 true a0_0 l0_1 bt161.1 bt161.2.1))) = some r := H
  have A14 := am A140
  clear A140
  replace H := Option.bind_eq_some_iff.mp H
  obtain ⟨⟨t161, t162, t165, t166⟩, A150, H⟩ := H
  replace H : (if t166.isNone = true then (if t165 = true then (if a1 < 0 then (L2_ZoneReached.j1 kj4 a1 a2 true a0_0 l0_1 t161 t162) else (if a2 < 0 then (L2_ZoneReached.j1 kj4 a1 a2 true a0_0 l0_1 t161 t162) else (if a1 > a0_0 then (L2_ZoneReached.j1 kj4 a1 a2 true a0_0 l0_1 t161 t162) else (L2_ZoneReached.j1 kj4 a1 a2 (decide (a2 > a0_0)) a0_0 l0_1 t161 t162)))) else (L2_ZoneReached.j1 kj4 a1 a2 true a0_0 l0_1 t161 t162)) else (L2_ZoneReached.j1 kj4 a1 a2 true a0_0 l0_1 t161 t162)) = some r := H
  have A15 := am A150
  clear A150
  have HC16 := am H
  clear H
  have hcz17_0 : wc.cell? ⟨gb154, 0, none⟩ = some (.int .i64 a0_0) := bc BK154 0
  have hcz17_1 : wc.cell? ⟨gb154, 1, none⟩ = some (.slice A0_1 l0_1.length c0_1) := bc BK154 1
  have hfz17_0 := blk_frozen BK154.out 0
  have hfz17_1 := blk_frozen BK154.out 1
  go_upto_region 5 with (first | ((with_reducible refine gate_callee (f := 23) rfl ?_); refine goesL_ (some 37) rfl rfl Tryd.func23 kk rfl #[.agg #[.int .i64 a0_0, .slice A0_1 l0_1.length c0_1]] rfl (by (try simp only [List.map_toArray, List.map_cons, List.map_nil]); first | done | rfl | (simp only [List.length_drop, List.length_take]; rfl)) ?_; (with_reducible refine (L2_zoneOf.calls kj4 a0_0 _ _ l0_1 t157 t158 _ ?side1 ?side2 A14.out).mono ?_); (case side1 => repeat (first | exact (Kd.C_below HR0_1.out HB.out) | (with_reducible refine Kd.C_alloc ?_ _) | (with_reducible refine Kd.C_drewN ?_ _) | (with_reducible refine Kd.C_drew ?_))); (case side2 => exact HC0_1.out); rintro e w18 ⟨v159, rfl, ho0, hb⟩; refine ⟨_, rfl, ?_⟩; have n0_ := am (Kd.R_lower ho0 (below_size pw)); have n1_ := bb BK154 hb; have n2_ := am (below_step pw hb); clear BK154; clear HB; have HO160 := n0_; have BK154 := n1_; have HB := n2_; clear n0_ n1_ n2_; (try clear hb); (try clear hb2); (try clear hk); (try clear hi); (try clear ho0); obtain ⟨Ao19, co19, eo19⟩ := Kd.R_slice HO160.out; subst eo19) | ((with_reducible refine gate_callee (f := 22) rfl ?_); refine goesL_ (some 38) rfl rfl Tryd.func22 kk rfl #[.agg #[.int .i64 t157, .slice Ao19 t158.length co19]] rfl (by (try simp only [List.map_toArray, List.map_cons, List.map_nil]); first | done | rfl | (simp only [List.length_drop, List.length_take]; rfl)) ?_; (with_reducible refine (zone_Close.calls t157 _ _ t158 t161 t162 t165 t166 _ ?side1 ?side2 A15.out (am (ErrAt.below hE2.out pw)).out (am (ErrAt.below hE3.out pw)).out).mono ?_); (case side1 => repeat (first | exact (Kd.R_reads' HO160.out).2.2 | (with_reducible refine Kd.C_alloc ?_ _) | (with_reducible refine Kd.C_drewN ?_ _) | (with_reducible refine Kd.C_drew ?_))); (case side2 => exact (Kd.R_reads' HO160.out).2.1); rintro e w20 ⟨v163, rfl, ho0, hb⟩; refine ⟨_, rfl, ?_⟩; have n0_ := am (Kd.R_elder' (by (with_reducible repeat (first | apply Kd.R_alloc | apply Kd.R_drewN | apply Kd.R_drew)); exact HO160.out) (Kd.R_base ho0) hb); have n1_ := am (Kd.R_lower (Kd.R_new' ho0 (Kd.R_lt (by (with_reducible repeat (first | apply Kd.R_alloc | apply Kd.R_drewN | apply Kd.R_drew)); exact HO160.out))) (below_size pw)); have n2_ := bb BK154 hb; have n3_ := am (below_step pw hb); clear HO160; clear BK154; clear HB; have HO160 := n0_; have HO164 := n1_; have BK154 := n2_; have HB := n3_; clear n0_ n1_ n2_ n3_; (try clear hb); (try clear hb2); (try clear hk); (try clear hi); (try clear ho0); (try simp only [errW_none, errW_some])) | ((with_reducible refine gate_dst (N := 8) rfl ?_); (try (refine gate_guard (by rfl) ?_; dsimp only)); refine box_event ?hg (N := 8) ?hd (cs := #[.int .i64 0, .slice none 0 0]) (t := 37) ?hr ?_; (case hd => rfl); (case hg => rfl); (case hr => first | (go_simp; done) | (go_simp; rfl)); intro gb167 hg w21 hbox hb; have n0_ := am (Kd.R_below (by (with_reducible repeat (first | apply Kd.R_alloc | apply Kd.R_drewN | apply Kd.R_drew)); exact HO160.out) hb); have n1_ := am (Kd.R_below (by (with_reducible repeat (first | apply Kd.R_alloc | apply Kd.R_drewN | apply Kd.R_drew)); exact HO164.out) hb); have n2_ := bb BK154 hb; have n3_ := am (below_step pw hb); have n4_ := am (hbox); have n5_ := am ((by rw [hg]; exact (below_size pw) : w.heap.size ≤ gb167)); have n6_ := am ((by rw [hg]; exact (below_size pw) : w.heap.size ≤ gb167)); have n7_ := am ((by rw [hg]; exact Nat.ne_of_lt (blk_lt pk) : gb154 ≠ gb167)); have n8_ := am ((by rw [hg]; exact Nat.ne_of_gt (blk_lt pk) : gb167 ≠ gb154)); clear HO160; clear HO164; clear BK154; clear HB; have HO160 := n0_; have HO164 := n1_; have BK154 := n2_; have HB := n3_; have BK167 := n4_; have GW167 := n5_; have GE167 := n6_; have NB154_167 := n7_; have NB167_154 := n8_; clear n0_ n1_ n2_ n3_ n4_ n5_ n6_ n7_ n8_; clear hb hbox hg; have hnb22 := NB167_154.out; have hnc22 := NB154_167.out; have hcz23_0 : w21.cell? ⟨gb167, 0, none⟩ = some (.int .i64 0) := bc BK167 0; have hcz23_1 : w21.cell? ⟨gb167, 1, none⟩ = some (.slice none 0 0) := bc BK167 1; have hfz23_0 := blk_frozen BK167.out 0; have hfz23_1 := blk_frozen BK167.out 1; obtain ⟨Ao24, co24, eo24⟩ := Kd.R_slice HO164.out; subst eo24))
  (try simp only [Act.put, List.setIfInBounds_toArray, List.set_cons_zero, List.set_cons_succ])
  go_cut [67] (fun v67 wc => ∃ (kq : Nat) (x67_15 : Bool), v67 = .bool x67_15 ∧ Aside0 (L2_ZoneReached.j1 kq a1 a2 x67_15 a0_0 l0_1 t161 t162 = some r) ∧ Aside0 (kq ≤ kj4) ∧ Aside0 (Kd.R k42 42 wc w.heap.size (fun _ => True) (.slice Ao24 t162.length co24) t162) ∧ Aside0 (wc.heap[gb154]? = some (.cells #[.int .i64 a0_0, (.slice A0_1 l0_1.length c0_1)] 33 (0, 0))) ∧ Aside0 (wc.heap[gb167]? = some (.cells #[.int .i64 t161, (.slice Ao24 t162.length co24)] 37 (0, 0))) ∧ Aside0 (Below w.heap.size w wc))
  case first =>
   have H := HC16.out
   clear HC16
   rcases t166 with _ | q168
   ·have H1 : (if t165 = true then (if a1 < 0 then (L2_ZoneReached.j1 kj4 a1 a2 true a0_0 l0_1 t161 t162) else (if a2 < 0 then (L2_ZoneReached.j1 kj4 a1 a2 true a0_0 l0_1 t161 t162) else (if a1 > a0_0 then (L2_ZoneReached.j1 kj4 a1 a2 true a0_0 l0_1 t161 t162) else (L2_ZoneReached.j1 kj4 a1 a2 (decide (a2 > a0_0)) a0_0 l0_1 t161 t162)))) else (L2_ZoneReached.j1 kj4 a1 a2 true a0_0 l0_1 t161 t162)) = some r := by rw [if_pos (show (none : Option Int).isNone = true by rfl)] at H; exact H
    clear H
    have H := H1
    clear H1
    try simp only [errW_none, errW_some]
    by_cases c25 : t165 = true
    ·subst c25
     have H1 : (if a1 < 0 then (L2_ZoneReached.j1 kj4 a1 a2 true a0_0 l0_1 t161 t162) else (if a2 < 0 then (L2_ZoneReached.j1 kj4 a1 a2 true a0_0 l0_1 t161 t162) else (if a1 > a0_0 then (L2_ZoneReached.j1 kj4 a1 a2 true a0_0 l0_1 t161 t162) else (L2_ZoneReached.j1 kj4 a1 a2 (decide (a2 > a0_0)) a0_0 l0_1 t161 t162)))) = some r := by rw [if_pos rfl] at H; exact H
     clear H
     have H := H1
     clear H1
     by_cases c26 : a1 < 0
     ·rw [if_pos c26] at H
      have c26b0 : decide (a1 < 0) = true := decide_eq_true c26
      clear c26
      (first | rw [c26b0] | (simp only [i64_w, i32_w]; rw [c26b0]) | skip)
      as_aux_lemma =>
       have H' := am H
       clear H
       go_wp2
       go_meet
       case rel => exact ⟨_, (true), pr, H', ⟨by have := HJ4.out; first | omega | exact Nat.le_refl _⟩, ⟨by (with_reducible repeat (first | apply Kd.R_alloc | apply Kd.R_drewN | apply Kd.R_drew)); exact Kd.R_mono (Kd.R_far (p := ⟨gb167, 1, none⟩) (Kd.R_far (p := ⟨gb167, 0, none⟩) (Kd.R_types HO164.out BK167.out (by decide)) (fun _ hk => hk.2) (.int .i64 t161)) (fun _ hk => hk.2) (.slice Ao24 t162.length co24)) (fun _ hk => trivial)⟩, ⟨by (with_reducible repeat (first | refine blk_drewN ?_ _ | refine blk_drew ?_ | refine blk_alloc ?_ _)); refine blk_far ?_ NB154_167.out _; (with_reducible repeat (first | refine blk_drewN ?_ _ | refine blk_drew ?_ | refine blk_alloc ?_ _)); refine blk_far ?_ NB154_167.out _; (with_reducible repeat (first | refine blk_drewN ?_ _ | refine blk_drew ?_ | refine blk_alloc ?_ _)); exact BK154.out⟩, ⟨by (with_reducible repeat (first | refine blk_drewN ?_ _ | refine blk_drew ?_ | refine blk_alloc ?_ _)); refine blk_put (cs := #[.int .i64 t161, .slice none 0 0]) ?_ 1 _ rfl; (with_reducible repeat (first | refine blk_drewN ?_ _ | refine blk_drew ?_ | refine blk_alloc ?_ _)); refine blk_put (cs := #[.int .i64 0, .slice none 0 0]) ?_ 0 _ rfl; (with_reducible repeat (first | refine blk_drewN ?_ _ | refine blk_drew ?_ | refine blk_alloc ?_ _)); exact BK167.out⟩, ⟨pw⟩⟩
     rw [if_neg c26] at H
     have c26b0 : decide (a1 < 0) = false := decide_eq_false c26
     clear c26
     (first | rw [c26b0] | (simp only [i64_w, i32_w]; rw [c26b0]) | skip)
     by_cases c27 : a2 < 0
     ·rw [if_pos c27] at H
      have c27b0 : decide (a2 < 0) = true := decide_eq_true c27
      clear c27
      as_aux_lemma =>
       have H' := am H
       clear H
       go_wp2
       go_meet
       case rel => exact ⟨_, (true), pr, H', ⟨by have := HJ4.out; first | omega | exact Nat.le_refl _⟩, ⟨by (with_reducible repeat (first | apply Kd.R_alloc | apply Kd.R_drewN | apply Kd.R_drew)); exact Kd.R_mono (Kd.R_far (p := ⟨gb167, 1, none⟩) (Kd.R_far (p := ⟨gb167, 0, none⟩) (Kd.R_types HO164.out BK167.out (by decide)) (fun _ hk => hk.2) (.int .i64 t161)) (fun _ hk => hk.2) (.slice Ao24 t162.length co24)) (fun _ hk => trivial)⟩, ⟨by (with_reducible repeat (first | refine blk_drewN ?_ _ | refine blk_drew ?_ | refine blk_alloc ?_ _)); refine blk_far ?_ NB154_167.out _; (with_reducible repeat (first | refine blk_drewN ?_ _ | refine blk_drew ?_ | refine blk_alloc ?_ _)); refine blk_far ?_ NB154_167.out _; (with_reducible repeat (first | refine blk_drewN ?_ _ | refine blk_drew ?_ | refine blk_alloc ?_ _)); exact BK154.out⟩, ⟨by (with_reducible repeat (first | refine blk_drewN ?_ _ | refine blk_drew ?_ | refine blk_alloc ?_ _)); refine blk_put (cs := #[.int .i64 t161, .slice none 0 0]) ?_ 1 _ rfl; (with_reducible repeat (first | refine blk_drewN ?_ _ | refine blk_drew ?_ | refine blk_alloc ?_ _)); refine blk_put (cs := #[.int .i64 0, .slice none 0 0]) ?_ 0 _ rfl; (with_reducible repeat (first | refine blk_drewN ?_ _ | refine blk_drew ?_ | refine blk_alloc ?_ _)); exact BK167.out⟩, ⟨pw⟩⟩
     rw [if_neg c27] at H
     have c27b0 : decide (a2 < 0) = false := decide_eq_false c27
     clear c27
     by_cases c28 : a1 > a0_0
     ·rw [if_pos c28] at H
      have c28b0 : decide (a0_0 < a1) = true := decide_eq_true c28
      clear c28
      as_aux_lemma =>
       have H' := am H
       clear H
       have hnb29 := NB154_167.out
       have hnc29 := NB167_154.out
       have hcz30_0 : w21.cell? ⟨gb154, 0, none⟩ = some (.int .i64 a0_0) := bc BK154 0
       have hcz30_1 : w21.cell? ⟨gb154, 1, none⟩ = some (.slice A0_1 l0_1.length c0_1) := bc BK154 1
       have hfz30_0 := blk_frozen BK154.out 0
       have hfz30_1 := blk_frozen BK154.out 1
       go_wp2
       go_meet
       case rel => exact ⟨_, (true), pr, H', ⟨by have := HJ4.out; first | omega | exact Nat.le_refl _⟩, ⟨by (with_reducible repeat (first | apply Kd.R_alloc | apply Kd.R_drewN | apply Kd.R_drew)); exact Kd.R_mono (Kd.R_far (p := ⟨gb167, 1, none⟩) (Kd.R_far (p := ⟨gb167, 0, none⟩) (Kd.R_types HO164.out BK167.out (by decide)) (fun _ hk => hk.2) (.int .i64 t161)) (fun _ hk => hk.2) (.slice Ao24 t162.length co24)) (fun _ hk => trivial)⟩, ⟨by (with_reducible repeat (first | refine blk_drewN ?_ _ | refine blk_drew ?_ | refine blk_alloc ?_ _)); refine blk_far ?_ NB154_167.out _; (with_reducible repeat (first | refine blk_drewN ?_ _ | refine blk_drew ?_ | refine blk_alloc ?_ _)); refine blk_far ?_ NB154_167.out _; (with_reducible repeat (first | refine blk_drewN ?_ _ | refine blk_drew ?_ | refine blk_alloc ?_ _)); exact BK154.out⟩, ⟨by (with_reducible repeat (first | refine blk_drewN ?_ _ | refine blk_drew ?_ | refine blk_alloc ?_ _)); refine blk_put (cs := #[.int .i64 t161, .slice none 0 0]) ?_ 1 _ rfl; (with_reducible repeat (first | refine blk_drewN ?_ _ | refine blk_drew ?_ | refine blk_alloc ?_ _)); refine blk_put (cs := #[.int .i64 0, .slice none 0 0]) ?_ 0 _ rfl; (with_reducible repeat (first | refine blk_drewN ?_ _ | refine blk_drew ?_ | refine blk_alloc ?_ _)); exact BK167.out⟩, ⟨pw⟩⟩
     rw [if_neg c28] at H
     have c28b0 : decide (a0_0 < a1) = false := decide_eq_false c28
     clear c28
     as_aux_lemma =>
      have H' := am H
      clear H
      have hnb31 := NB154_167.out
      have hnc31 := NB167_154.out
      have hcz32_0 : w21.cell? ⟨gb154, 0, none⟩ = some (.int .i64 a0_0) := bc BK154 0
      have hcz32_1 : w21.cell? ⟨gb154, 1, none⟩ = some (.slice A0_1 l0_1.length c0_1) := bc BK154 1
      have hfz32_0 := blk_frozen BK154.out 0
      have hfz32_1 := blk_frozen BK154.out 1
      go_wp2
      go_meet
      case rel => exact ⟨_, (decide (a2 > a0_0)), pr, H', ⟨by have := HJ4.out; first | omega | exact Nat.le_refl _⟩, ⟨by (with_reducible repeat (first | apply Kd.R_alloc | apply Kd.R_drewN | apply Kd.R_drew)); exact Kd.R_mono (Kd.R_far (p := ⟨gb167, 1, none⟩) (Kd.R_far (p := ⟨gb167, 0, none⟩) (Kd.R_types HO164.out BK167.out (by decide)) (fun _ hk => hk.2) (.int .i64 t161)) (fun _ hk => hk.2) (.slice Ao24 t162.length co24)) (fun _ hk => trivial)⟩, ⟨by (with_reducible repeat (first | refine blk_drewN ?_ _ | refine blk_drew ?_ | refine blk_alloc ?_ _)); refine blk_far ?_ NB154_167.out _; (with_reducible repeat (first | refine blk_drewN ?_ _ | refine blk_drew ?_ | refine blk_alloc ?_ _)); refine blk_far ?_ NB154_167.out _; (with_reducible repeat (first | refine blk_drewN ?_ _ | refine blk_drew ?_ | refine blk_alloc ?_ _)); exact BK154.out⟩, ⟨by (with_reducible repeat (first | refine blk_drewN ?_ _ | refine blk_drew ?_ | refine blk_alloc ?_ _)); refine blk_put (cs := #[.int .i64 t161, .slice none 0 0]) ?_ 1 _ rfl; (with_reducible repeat (first | refine blk_drewN ?_ _ | refine blk_drew ?_ | refine blk_alloc ?_ _)); refine blk_put (cs := #[.int .i64 0, .slice none 0 0]) ?_ 0 _ rfl; (with_reducible repeat (first | refine blk_drewN ?_ _ | refine blk_drew ?_ | refine blk_alloc ?_ _)); exact BK167.out⟩, ⟨pw⟩⟩
    replace c25 := Bool.eq_false_iff.mpr c25
    subst c25
    have H1 : (L2_ZoneReached.j1 kj4 a1 a2 true a0_0 l0_1 t161 t162) = some r := by rw [if_neg (show ¬ (false = true) by decide)] at H; exact H
    clear H
    have H := H1
    clear H1
    as_aux_lemma =>
     have H' := am H
     clear H
     go_wp2
     go_meet
     case rel => exact ⟨_, (true), pr, H', ⟨by have := HJ4.out; first | omega | exact Nat.le_refl _⟩, ⟨by (with_reducible repeat (first | apply Kd.R_alloc | apply Kd.R_drewN | apply Kd.R_drew)); exact Kd.R_mono (Kd.R_far (p := ⟨gb167, 1, none⟩) (Kd.R_far (p := ⟨gb167, 0, none⟩) (Kd.R_types HO164.out BK167.out (by decide)) (fun _ hk => hk.2) (.int .i64 t161)) (fun _ hk => hk.2) (.slice Ao24 t162.length co24)) (fun _ hk => trivial)⟩, ⟨by (with_reducible repeat (first | refine blk_drewN ?_ _ | refine blk_drew ?_ | refine blk_alloc ?_ _)); refine blk_far ?_ NB154_167.out _; (with_reducible repeat (first | refine blk_drewN ?_ _ | refine blk_drew ?_ | refine blk_alloc ?_ _)); refine blk_far ?_ NB154_167.out _; (with_reducible repeat (first | refine blk_drewN ?_ _ | refine blk_drew ?_ | refine blk_alloc ?_ _)); exact BK154.out⟩, ⟨by (with_reducible repeat (first | refine blk_drewN ?_ _ | refine blk_drew ?_ | refine blk_alloc ?_ _)); refine blk_put (cs := #[.int .i64 t161, .slice none 0 0]) ?_ 1 _ rfl; (with_reducible repeat (first | refine blk_drewN ?_ _ | refine blk_drew ?_ | refine blk_alloc ?_ _)); refine blk_put (cs := #[.int .i64 0, .slice none 0 0]) ?_ 0 _ rfl; (with_reducible repeat (first | refine blk_drewN ?_ _ | refine blk_drew ?_ | refine blk_alloc ?_ _)); exact BK167.out⟩, ⟨pw⟩⟩
   have H1 : (L2_ZoneReached.j1 kj4 a1 a2 true a0_0 l0_1 t161 t162) = some r := by rw [if_neg (show ¬ (some q168).isNone = true by simp)] at H; exact H
   clear H
   have H := H1
   clear H1
   try simp only [errW_none, errW_some]
   as_aux_lemma =>
    have H' := am H
    clear H
    go_wp2
    go_meet
    case rel => exact ⟨_, (true), pr, H', ⟨by have := HJ4.out; first | omega | exact Nat.le_refl _⟩, ⟨by (with_reducible repeat (first | apply Kd.R_alloc | apply Kd.R_drewN | apply Kd.R_drew)); exact Kd.R_mono (Kd.R_far (p := ⟨gb167, 1, none⟩) (Kd.R_far (p := ⟨gb167, 0, none⟩) (Kd.R_types HO164.out BK167.out (by decide)) (fun _ hk => hk.2) (.int .i64 t161)) (fun _ hk => hk.2) (.slice Ao24 t162.length co24)) (fun _ hk => trivial)⟩, ⟨by (with_reducible repeat (first | refine blk_drewN ?_ _ | refine blk_drew ?_ | refine blk_alloc ?_ _)); refine blk_far ?_ NB154_167.out _; (with_reducible repeat (first | refine blk_drewN ?_ _ | refine blk_drew ?_ | refine blk_alloc ?_ _)); refine blk_far ?_ NB154_167.out _; (with_reducible repeat (first | refine blk_drewN ?_ _ | refine blk_drew ?_ | refine blk_alloc ?_ _)); exact BK154.out⟩, ⟨by (with_reducible repeat (first | refine blk_drewN ?_ _ | refine blk_drew ?_ | refine blk_alloc ?_ _)); refine blk_put (cs := #[.int .i64 t161, .slice none 0 0]) ?_ 1 _ rfl; (with_reducible repeat (first | refine blk_drewN ?_ _ | refine blk_drew ?_ | refine blk_alloc ?_ _)); refine blk_put (cs := #[.int .i64 0, .slice none 0 0]) ?_ 0 _ rfl; (with_reducible repeat (first | refine blk_drewN ?_ _ | refine blk_drew ?_ | refine blk_alloc ?_ _)); exact BK167.out⟩, ⟨pw⟩⟩
  clear HC16
  try clear c1
  try clear q1
  try clear c2
  try clear p2
  try clear c3
  try clear c4
  try clear c8
  try clear c9
  try clear c9b0
  try clear c9b1
  try clear c13
  try clear q16
  try clear c20
  try clear c22
  try clear c23
  try clear c25
  try clear c26
  try clear c26b0
  try clear c27
  try clear c27b0
  try clear c28
  try clear c28b0
  try clear c29
  try clear c31
  try clear hcz10_0
  try clear hcz10_1
  try clear hcz12_0
  try clear hcz12_1
  try clear hcz17_0
  try clear hcz17_1
  try clear hcz23_0
  try clear hcz23_1
  try clear hcz30_0
  try clear hcz30_1
  try clear hcz32_0
  try clear hcz32_1
  try clear hfz10_0
  try clear hfz10_1
  try clear hfz12_0
  try clear hfz12_1
  try clear hfz17_0
  try clear hfz17_1
  try clear hfz23_0
  try clear hfz23_1
  try clear hfz30_0
  try clear hfz30_1
  try clear hfz32_0
  try clear hfz32_1
  try clear p2
  try clear q168
  obtain ⟨kq, x67_15, rfl, HA, HJ15, HO_168001, BK154, BK167, HB⟩ := hcut
  cases kq with
  | zero => exact absurd HA.out (by simp [L2_ZoneReached.j1])
  | succ kj15 =>
   have H := HA.out
   clear HA
   simp only [L2_ZoneReached.j1] at H
   by_cases c33 : x67_15 = true
   ·subst c33
    have H1 : (some true) = some r := by rw [if_pos rfl] at H; exact H
    clear H
    have H := H1
    clear H1
    as_aux_lemma =>
     obtain rfl := Option.some.inj H
     go_wp2
     go_ret
     exact ⟨pe, pw⟩
   replace c33 := Bool.eq_false_iff.mpr c33
   subst c33
   have H1 : (if a1 = a2 then (L2_ZoneReached.j2 kj15 a1 a2 true a0_0 l0_1 t161 t162) else (L2_ZoneReached.j2 kj15 a1 a2 ((t162.length : Int) != (wrap64 ((wrap64 (a0_0 + 1)) * (wrap64 (a0_0 + 1))))) a0_0 l0_1 t161 t162)) = some r := by rw [if_neg (show ¬ (false = true) by decide)] at H; exact H
   clear H
   have H := H1
   clear H1
   have HC34 := am H
   clear H
   go_upto_region 7 with (fail)
   go_cut [83] (fun v83 wc => ∃ (kq : Nat) (x83_33 : Bool), v83 = .bool x83_33 ∧ Aside0 (L2_ZoneReached.j2 kq a1 a2 x83_33 a0_0 l0_1 t161 t162 = some r) ∧ Aside0 (kq ≤ kj15) ∧ Aside0 (Kd.R k42 42 wc w.heap.size (fun _ => True) (.slice Ao24 t162.length co24) t162) ∧ Aside0 (wc.heap[gb154]? = some (.cells #[.int .i64 a0_0, (.slice A0_1 l0_1.length c0_1)] 33 (0, 0))) ∧ Aside0 (wc.heap[gb167]? = some (.cells #[.int .i64 t161, (.slice Ao24 t162.length co24)] 37 (0, 0))) ∧ Aside0 (Below w.heap.size w wc))
   case first =>
    have H := HC34.out
    clear HC34
    by_cases c35 : a1 = a2
    ·rw [if_pos c35] at H
     have c35b0 : (a1 == a2) = true := beq_iff_eq.mpr c35
     have c35b1 : (a1 != a2) = false := bne_eq_false_iff_eq.mpr c35
     clear c35
     (first | rw [c35b0] | (simp only [i64_w, i32_w]; rw [c35b0]) | skip)
     as_aux_lemma =>
      have H' := am H
      clear H
      go_wp2
      go_meet
      case rel => exact ⟨_, (true), pr, H', ⟨by have := HJ4.out; have := HJ15.out; first | omega | exact Nat.le_refl _⟩, ⟨by (with_reducible repeat (first | apply Kd.R_alloc | apply Kd.R_drewN | apply Kd.R_drew)); exact HO_168001.out⟩, ⟨pk⟩, ⟨pk⟩, ⟨pw⟩⟩
    rw [if_neg c35] at H
    have c35b0 : (a1 == a2) = false := beq_eq_false_iff_ne.mpr c35
    have c35b1 : (a1 != a2) = true := bne_iff_ne.mpr c35
    (first | rw [c35b0] | (simp only [i64_w, i32_w]; rw [c35b0]) | skip)
    as_aux_lemma =>
     have H' := am H
     clear H
     have hnb36 := NB167_154.out
     have hnc36 := NB154_167.out
     have hcz37_0 : wc.cell? ⟨gb167, 0, none⟩ = some (.int .i64 t161) := bc BK167 0
     have hcz37_1 : wc.cell? ⟨gb167, 1, none⟩ = some (.slice Ao24 t162.length co24) := bc BK167 1
     have hfz37_0 := blk_frozen BK167.out 0
     have hfz37_1 := blk_frozen BK167.out 1
     have hcz38_0 : wc.cell? ⟨gb154, 0, none⟩ = some (.int .i64 a0_0) := bc BK154 0
     have hcz38_1 : wc.cell? ⟨gb154, 1, none⟩ = some (.slice A0_1 l0_1.length c0_1) := bc BK154 1
     have hfz38_0 := blk_frozen BK154.out 0
     have hfz38_1 := blk_frozen BK154.out 1
     go_wp2
     go_meet
     case rel => exact ⟨_, (((t162.length : Int) != (wrap64 ((wrap64 (a0_0 + 1)) * (wrap64 (a0_0 + 1)))))), pr, H', ⟨by have := HJ4.out; have := HJ15.out; first | omega | exact Nat.le_refl _⟩, ⟨by (with_reducible repeat (first | apply Kd.R_alloc | apply Kd.R_drewN | apply Kd.R_drew)); exact HO_168001.out⟩, ⟨pk⟩, ⟨pk⟩, ⟨pw⟩⟩
   clear HC34
   try clear c1
   try clear q1
   try clear c2
   try clear p2
   try clear c3
   try clear c4
   try clear p6
   try clear c8
   try clear c9
   try clear c9b0
   try clear c9b1
   try clear c13
   try clear q16
   try clear c20
   try clear c22
   try clear c23
   try clear c25
   try clear c26
   try clear c26b0
   try clear c27
   try clear c27b0
   try clear c28
   try clear c28b0
   try clear c29
   try clear c31
   try clear c33
   try clear c35
   try clear c35b0
   try clear c35b1
   try clear c36
   try clear hcz10_0
   try clear hcz10_1
   try clear hcz12_0
   try clear hcz12_1
   try clear hcz17_0
   try clear hcz17_1
   try clear hcz23_0
   try clear hcz23_1
   try clear hcz30_0
   try clear hcz30_1
   try clear hcz32_0
   try clear hcz32_1
   try clear hcz37_0
   try clear hcz37_1
   try clear hcz38_0
   try clear hcz38_1
   try clear hfz10_0
   try clear hfz10_1
   try clear hfz12_0
   try clear hfz12_1
   try clear hfz17_0
   try clear hfz17_1
   try clear hfz23_0
   try clear hfz23_1
   try clear hfz30_0
   try clear hfz30_1
   try clear hfz32_0
   try clear hfz32_1
   try clear hfz37_0
   try clear hfz37_1
   try clear hfz38_0
   try clear hfz38_1
   try clear p2
   try clear q1
   try clear q16
   try clear q168
   obtain ⟨kq, x83_33, rfl, HA, HJ33, HO_168001, BK154, BK167, HB⟩ := hcut
   cases kq with
   | zero => exact absurd HA.out (by simp [L2_ZoneReached.j2])
   | succ kj33 =>
    have H := HA.out
    clear HA
    simp only [L2_ZoneReached.j2] at H
    by_cases c39 : x83_33 = true
    ·subst c39
     have H1 : (some true) = some r := by rw [if_pos rfl] at H; exact H
     clear H
     have H := H1
     clear H1
     as_aux_lemma =>
      obtain rfl := Option.some.inj H
      go_wp2
      go_ret
      exact ⟨pe, pw⟩
    replace c39 := Bool.eq_false_iff.mpr c39
    subst c39
    have H1 : (if 0 ≤ (wrap64 ((wrap64 (a1 * (wrap64 (a0_0 + 1)))) + a2)) then (if (wrap64 ((wrap64 (a1 * (wrap64 (a0_0 + 1)))) + a2)) < (t162.length : Int) then (if ((rd_T42 t162 (wrap64 ((wrap64 (a1 * (wrap64 (a0_0 + 1)))) + a2))).f0 = true) then ((L2_zoneOf.f kj33 a0_0 l0_1).bind fun bt183 => ((zone_Guard.f bt183.1 bt183.2 a2 a1 (wrap64 (-((rd_T42 t162 (wrap64 ((wrap64 (a1 * (wrap64 (a0_0 + 1)))) + a2))).f1)))).bind fun bt187 => ((L2_zoneOf.f kj33 a0_0 l0_1).bind fun bt194 => ((zone_Guard.f bt194.1 bt194.2 a2 a1 (wrap64 ((wrap64 (-((rd_T42 t162 (wrap64 ((wrap64 (a1 * (wrap64 (a0_0 + 1)))) + a2))).f1))) - 1))).bind fun bt198 => (if bt187.2.2.2.isNone = true then (if bt187.2.2.1 = true then (if bt187.1 = a0_0 then (if bt198.2.2.2.isNone = true then (if bt198.2.2.1 = true then (none) else (some (bt198.1 == 0))) else (none)) else (none)) else (none)) else (none)))))) else ((L2_zoneOf.f kj33 a0_0 l0_1).bind fun bt171 => ((zone_Guard.f bt171.1 bt171.2 a2 a1 (-33554432)).bind fun bt175 => (if bt175.2.2.2.isNone = true then (if bt175.2.2.1 = true then (some (bt175.1 == a0_0)) else (none)) else (none))))) else (none)) else (none)) = some r := by rw [if_neg (show ¬ (false = true) by decide)] at H; exact H
    clear H
    have H := H1
    clear H1
    obtain ⟨ji40, hji40⟩ : ∃ j_ : Int, (wrap64 ((wrap64 (a1 * (wrap64 (a0_0 + 1)))) + a2)) = j_ := ⟨_, rfl⟩
    replace H : (if 0 ≤ (ji40) then (if (ji40) < (t162.length : Int) then (if ((rd_T42 t162 (ji40)).f0 = true) then ((L2_zoneOf.f kj33 a0_0 l0_1).bind fun bt183 => ((zone_Guard.f bt183.1 bt183.2 a2 a1 (wrap64 (-((rd_T42 t162 (ji40)).f1)))).bind fun bt187 => ((L2_zoneOf.f kj33 a0_0 l0_1).bind fun bt194 => ((zone_Guard.f bt194.1 bt194.2 a2 a1 (wrap64 ((wrap64 (-((rd_T42 t162 (ji40)).f1))) - 1))).bind fun bt198 => (if bt187.2.2.2.isNone = true then (if bt187.2.2.1 = true then (if bt187.1 = a0_0 then (if bt198.2.2.2.isNone = true then (if bt198.2.2.1 = true then (none) else (some (bt198.1 == 0))) else (none)) else (none)) else (none)) else (none)))))) else ((L2_zoneOf.f kj33 a0_0 l0_1).bind fun bt171 => ((zone_Guard.f bt171.1 bt171.2 a2 a1 (-33554432)).bind fun bt175 => (if bt175.2.2.2.isNone = true then (if bt175.2.2.1 = true then (some (bt175.1 == a0_0)) else (none)) else (none))))) else (none)) else (none)) = some r := by first | (rw [hji40] at H; exact H) | (simp only [hji40] at H ⊢; exact H)
    have hji40w : (IntKind.i64.wrap ((wrap64 (a1 * (wrap64 (a0_0 + 1)))) + a2)) = ji40 := (i64_w _).trans hji40
    by_cases c41 : 0 ≤ (ji40)
    ·rw [if_pos c41] at H
     have c41b0 : decide (0 ≤ (ji40)) = true := decide_eq_true c41
     clear c41
     by_cases c42 : (ji40) < (t162.length : Int)
     ·rw [if_pos c42] at H
      have c42b0 : decide ((ji40) < (t162.length : Int)) = true := decide_eq_true c42
      clear c42
      obtain ⟨bq43, hbq43⟩ : ∃ b_ : Bool, b_ = ((rd_T42 t162 (ji40)).f0) := ⟨_, rfl⟩
      replace H : (if (bq43 = true) then ((L2_zoneOf.f kj33 a0_0 l0_1).bind fun bt183 => ((zone_Guard.f bt183.1 bt183.2 a2 a1 (wrap64 (-((rd_T42 t162 (ji40)).f1)))).bind fun bt187 => ((L2_zoneOf.f kj33 a0_0 l0_1).bind fun bt194 => ((zone_Guard.f bt194.1 bt194.2 a2 a1 (wrap64 ((wrap64 (-((rd_T42 t162 (ji40)).f1))) - 1))).bind fun bt198 => (if bt187.2.2.2.isNone = true then (if bt187.2.2.1 = true then (if bt187.1 = a0_0 then (if bt198.2.2.2.isNone = true then (if bt198.2.2.1 = true then (none) else (some (bt198.1 == 0))) else (none)) else (none)) else (none)) else (none)))))) else ((L2_zoneOf.f kj33 a0_0 l0_1).bind fun bt171 => ((zone_Guard.f bt171.1 bt171.2 a2 a1 (-33554432)).bind fun bt175 => (if bt175.2.2.2.isNone = true then (if bt175.2.2.1 = true then (some (bt175.1 == a0_0)) else (none)) else (none))))) = some r := by rw [← hbq43] at H; exact H
      have Nbq43 := am hbq43
      clear hbq43
      by_cases c44 : (bq43 = true)
      ·subst c44
       have H1 : ((L2_zoneOf.f kj33 a0_0 l0_1).bind fun bt183 => ((zone_Guard.f bt183.1 bt183.2 a2 a1 (wrap64 (-((rd_T42 t162 (ji40)).f1)))).bind fun bt187 => ((L2_zoneOf.f kj33 a0_0 l0_1).bind fun bt194 => ((zone_Guard.f bt194.1 bt194.2 a2 a1 (wrap64 ((wrap64 (-((rd_T42 t162 (ji40)).f1))) - 1))).bind fun bt198 => (if bt187.2.2.2.isNone = true then (if bt187.2.2.1 = true then (if bt187.1 = a0_0 then (if bt198.2.2.2.isNone = true then (if bt198.2.2.1 = true then (none) else (some (bt198.1 == 0))) else (none)) else (none)) else (none)) else (none)))))) = some r := by rw [if_pos rfl] at H; exact H
       clear H
       have H := H1
       clear H1
       replace H := Option.bind_eq_some_iff.mp H
       obtain ⟨⟨t183, t184⟩, A450, H⟩ := H
       replace H : ((zone_Guard.f t183 t184 a2 a1 (wrap64 (-((rd_T42 t162 (ji40)).f1)))).bind fun bt187 => ((L2_zoneOf.f kj33 a0_0 l0_1).bind fun bt194 => ((zone_Guard.f bt194.1 bt194.2 a2 a1 (wrap64 ((wrap64 (-((rd_T42 t162 (ji40)).f1))) - 1))).bind fun bt198 => (if bt187.2.2.2.isNone = true then (if bt187.2.2.1 = true then (if bt187.1 = a0_0 then (if bt198.2.2.2.isNone = true then (if bt198.2.2.1 = true then (none) else (some (bt198.1 == 0))) else (none)) else (none)) else (none)) else (none))))) = some r := H
       have A45 := am A450
       clear A450
       replace H := Option.bind_eq_some_iff.mp H
       obtain ⟨⟨t187, t188, t191, t192⟩, A460, H⟩ := H
       replace H : ((L2_zoneOf.f kj33 a0_0 l0_1).bind fun bt194 => ((zone_Guard.f bt194.1 bt194.2 a2 a1 (wrap64 ((wrap64 (-((rd_T42 t162 (ji40)).f1))) - 1))).bind fun bt198 => (if t192.isNone = true then (if t191 = true then (if t187 = a0_0 then (if bt198.2.2.2.isNone = true then (if bt198.2.2.1 = true then (none) else (some (bt198.1 == 0))) else (none)) else (none)) else (none)) else (none)))) = some r := H
       have A46 := am A460
       clear A460
       replace H := Option.bind_eq_some_iff.mp H
       obtain ⟨⟨t194, t195⟩, A470, H⟩ := H
       replace H : ((zone_Guard.f t194 t195 a2 a1 (wrap64 ((wrap64 (-((rd_T42 t162 (ji40)).f1))) - 1))).bind fun bt198 => (if t192.isNone = true then (if t191 = true then (if t187 = a0_0 then (if bt198.2.2.2.isNone = true then (if bt198.2.2.1 = true then (none) else (some (bt198.1 == 0))) else (none)) else (none)) else (none)) else (none))) = some r := H
       have A47 := am A470
       clear A470
       replace H := Option.bind_eq_some_iff.mp H
       obtain ⟨⟨t198, t199, t202, t203⟩, A480, H⟩ := H
       replace H : (if t192.isNone = true then (if t191 = true then (if t187 = a0_0 then (if t203.isNone = true then (if t202 = true then (none) else (some (t198 == 0))) else (none)) else (none)) else (none)) else (none)) = some r := H
       have A48 := am A480
       clear A480
       rcases t192 with _ | q205
       ·have H1 : (if t191 = true then (if t187 = a0_0 then (if t203.isNone = true then (if t202 = true then (none) else (some (t198 == 0))) else (none)) else (none)) else (none)) = some r := by rw [if_pos (show (none : Option Int).isNone = true by rfl)] at H; exact H
        clear H
        have H := H1
        clear H1
        try simp only [errW_none, errW_some]
        by_cases c49 : t191 = true
        ·subst c49
         have H1 : (if t187 = a0_0 then (if t203.isNone = true then (if t202 = true then (none) else (some (t198 == 0))) else (none)) else (none)) = some r := by rw [if_pos rfl] at H; exact H
         clear H
         have H := H1
         clear H1
         by_cases c50 : t187 = a0_0
         ·rw [if_pos c50] at H
          have c50b0 : (t187 == a0_0) = true := beq_iff_eq.mpr c50
          have c50b1 : (t187 != a0_0) = false := bne_eq_false_iff_eq.mpr c50
          clear c50
          rcases t203 with _ | q206
          ·have H1 : (if t202 = true then (none) else (some (t198 == 0))) = some r := by rw [if_pos (show (none : Option Int).isNone = true by rfl)] at H; exact H
           clear H
           have H := H1
           clear H1
           try simp only [errW_none, errW_some]
           by_cases c51 : t202 = true
           ·subst c51
            have H1 : (none) = some r := by rw [if_pos rfl] at H; exact H
            clear H
            have H := H1
            clear H1
            exact absurd H (by simp)
           replace c51 := Bool.eq_false_iff.mpr c51
           subst c51
           have H1 : (some (t198 == 0)) = some r := by rw [if_neg (show ¬ (false = true) by decide)] at H; exact H
           clear H
           have H := H1
           clear H1
           as_aux_lemma =>
            obtain rfl := Option.some.inj H
            have hnb52 := NB167_154.out
            have hnc52 := NB154_167.out
            have hcz53_0 : wc.cell? ⟨gb167, 0, none⟩ = some (.int .i64 t161) := bc BK167 0
            have hcz53_1 : wc.cell? ⟨gb167, 1, none⟩ = some (.slice Ao24 t162.length co24) := bc BK167 1
            have hfz53_0 := blk_frozen BK167.out 0
            have hfz53_1 := blk_frozen BK167.out 1
            have hcz54_0 : wc.cell? ⟨gb154, 0, none⟩ = some (.int .i64 a0_0) := bc BK154 0
            have hcz54_1 : wc.cell? ⟨gb154, 1, none⟩ = some (.slice A0_1 l0_1.length c0_1) := bc BK154 1
            have hfz54_0 := blk_frozen BK154.out 0
            have hfz54_1 := blk_frozen BK154.out 1
            have p169 : 0 ≤ ((ji40) : Int) := of_decide_eq_true (by first | (with_reducible assumption) | assumption)
            have q169 : (ji40) < (t162.length : Int) := of_decide_eq_true (by first | (with_reducible assumption) | assumption)
            obtain ⟨ad169, e169, hx169_0, hx169_1⟩ := at_T42 (Kd.R_reads' HO_168001.out).2.2 (ji40) p169 q169
            (try rw [← Nbq43.out] at hx169_0)
            cases e169
            replace p169 := eq_true p169
            replace q169 := eq_true q169
            try go_wp2_with (first | ((with_reducible refine gate_dst (N := 11) rfl ?_); (try (refine gate_guard (by rfl) ?_; dsimp only)); refine box_event ?hg (N := 11) ?hd (cs := #[.bool false, .int .i64 0]) (t := 42) ?hr ?_; (case hd => rfl); (case hg => rfl); (case hr => first | (go_simp; done) | (go_simp; rfl)); intro gb170 hg w55 hbox hb; have n0_ := am (Kd.R_below (Kd.R_elderB (by (with_reducible repeat (first | apply Kd.R_alloc | apply Kd.R_drewN | apply Kd.R_drew)); exact HO_168001.out) gb170 (Nat.le_of_eq hg.symm)) hb); have n1_ := bb BK154 hb; have n2_ := bb BK167 hb; have n3_ := am (below_step pw hb); have n4_ := am (hbox); have n5_ := am ((by rw [hg]; exact (below_size pw) : w.heap.size ≤ gb170)); have n6_ := am ((by rw [hg]; exact (below_size pw) : w.heap.size ≤ gb170)); have n7_ := am ((by rw [hg]; exact Nat.ne_of_lt (blk_lt pk) : gb154 ≠ gb170)); have n8_ := am ((by rw [hg]; exact Nat.ne_of_gt (blk_lt pk) : gb170 ≠ gb154)); have n9_ := am ((by rw [hg]; exact Nat.ne_of_lt (blk_lt pk) : gb167 ≠ gb170)); have n10_ := am ((by rw [hg]; exact Nat.ne_of_gt (blk_lt pk) : gb170 ≠ gb167)); clear HO_168001; clear BK154; clear BK167; clear HB; have HO_168001 := n0_; have BK154 := n1_; have BK167 := n2_; have HB := n3_; have BK170 := n4_; have GW170 := n5_; have GE170 := n6_; have NB154_170 := n7_; have NB170_154 := n8_; have NB167_170 := n9_; have NB170_167 := n10_; clear n0_ n1_ n2_ n3_ n4_ n5_ n6_ n7_ n8_ n9_ n10_; clear hb hbox hg; have hnb56 := NB170_154.out; have hnc56 := NB154_170.out; have hnb57 := NB170_167.out; have hnc57 := NB167_170.out; have hcz58_0 : w55.cell? ⟨gb170, 0, none⟩ = some (.bool false) := bc BK170 0; have hcz58_1 : w55.cell? ⟨gb170, 1, none⟩ = some (.int .i64 0) := bc BK170 1; have hfz58_0 := blk_frozen BK170.out 0; have hfz58_1 := blk_frozen BK170.out 1))
            have n0_ : Aside0 (Kd.R k42 42 ((w55.setCell ⟨gb170, 0, none⟩ (.bool true)).setCell ⟨gb170, 1, none⟩ (.int .i64 ((rd_T42 t162 (ji40)).f1))) w.heap.size (fun k_ => k_ ≠ gb170) (.slice (some ad169) t162.length co24) t162) := ⟨by (with_reducible repeat (first | apply Kd.R_alloc | apply Kd.R_drewN | apply Kd.R_drew)); exact Kd.R_mono (Kd.R_far (p := ⟨gb170, 1, none⟩) (Kd.R_far (p := ⟨gb170, 0, none⟩) (Kd.R_mono HO_168001.out (fun k_ hk => (⟨hk, hk.2⟩ : _ ∧ k_ ≠ gb170))) (fun _ hk => hk.2) (.bool true)) (fun _ hk => hk.2) (.int .i64 ((rd_T42 t162 (ji40)).f1))) (fun _ hk => hk.1.2)⟩
            have n1_ : Aside0 (((w55.setCell ⟨gb170, 0, none⟩ (.bool true)).setCell ⟨gb170, 1, none⟩ (.int .i64 ((rd_T42 t162 (ji40)).f1))).heap[gb154]? = some (.cells #[.int .i64 a0_0, .slice A0_1 l0_1.length c0_1] 33 (0, 0))) := ⟨by (with_reducible repeat (first | refine blk_drewN ?_ _ | refine blk_drew ?_ | refine blk_alloc ?_ _)); refine blk_far ?_ NB154_170.out _; (with_reducible repeat (first | refine blk_drewN ?_ _ | refine blk_drew ?_ | refine blk_alloc ?_ _)); refine blk_far ?_ NB154_170.out _; (with_reducible repeat (first | refine blk_drewN ?_ _ | refine blk_drew ?_ | refine blk_alloc ?_ _)); exact BK154.out⟩
            have n2_ : Aside0 (((w55.setCell ⟨gb170, 0, none⟩ (.bool true)).setCell ⟨gb170, 1, none⟩ (.int .i64 ((rd_T42 t162 (ji40)).f1))).heap[gb167]? = some (.cells #[.int .i64 t161, .slice (some ad169) t162.length co24] 37 (0, 0))) := ⟨by (with_reducible repeat (first | refine blk_drewN ?_ _ | refine blk_drew ?_ | refine blk_alloc ?_ _)); refine blk_far ?_ NB167_170.out _; (with_reducible repeat (first | refine blk_drewN ?_ _ | refine blk_drew ?_ | refine blk_alloc ?_ _)); refine blk_far ?_ NB167_170.out _; (with_reducible repeat (first | refine blk_drewN ?_ _ | refine blk_drew ?_ | refine blk_alloc ?_ _)); exact BK167.out⟩
            have n3_ : Aside0 (((w55.setCell ⟨gb170, 0, none⟩ (.bool true)).setCell ⟨gb170, 1, none⟩ (.int .i64 ((rd_T42 t162 (ji40)).f1))).heap[gb170]? = some (.cells #[.bool true, .int .i64 ((rd_T42 t162 (ji40)).f1)] 42 (0, 0))) := ⟨by (with_reducible repeat (first | refine blk_drewN ?_ _ | refine blk_drew ?_ | refine blk_alloc ?_ _)); refine blk_put (cs := #[.bool true, .int .i64 0]) ?_ 1 _ rfl; (with_reducible repeat (first | refine blk_drewN ?_ _ | refine blk_drew ?_ | refine blk_alloc ?_ _)); refine blk_put (cs := #[.bool false, .int .i64 0]) ?_ 0 _ rfl; (with_reducible repeat (first | refine blk_drewN ?_ _ | refine blk_drew ?_ | refine blk_alloc ?_ _)); exact BK170.out⟩
            have n4_ : Aside0 (Below w.heap.size w ((w55.setCell ⟨gb170, 0, none⟩ (.bool true)).setCell ⟨gb170, 1, none⟩ (.int .i64 ((rd_T42 t162 (ji40)).f1)))) := ⟨pw⟩
            (try clear HO_168001)
            (try clear BK154)
            (try clear BK167)
            (try clear BK170)
            (try clear HB)
            generalize ((w55.setCell ⟨gb170, 0, none⟩ (.bool true)).setCell ⟨gb170, 1, none⟩ (.int .i64 ((rd_T42 t162 (ji40)).f1))) = w59 at n0_ n1_ n2_ n3_ n4_ ⊢
            revert n0_ n1_ n2_ n3_ n4_
            intro HO_168001 BK154 BK167 BK170 HB
            have n0_ := am (Kd.R_drew HO_168001.out)
            have n1_ := am (blk_drew BK154.out)
            have n2_ := am (blk_drew BK167.out)
            have n3_ := am (blk_drew BK170.out)
            have n4_ := am (below_drew1 HB.out)
            clear HO_168001 BK154 BK167 BK170 HB
            revert n0_ n1_ n2_ n3_ n4_
            intro HO_168001 BK154 BK167 BK170 HB
            refine start_ (n := 16) (S := fun w' => w'.cell? ⟨gb154, 0, none⟩ = some (.int .i64 a0_0) ∧ w'.cell? ⟨gb154, 1, none⟩ = some (.slice A0_1 l0_1.length c0_1) ∧ w'.cell? ⟨gb170, 0, none⟩ = some (.bool true) ∧ w'.cell? ⟨gb170, 1, none⟩ = some (.int .i64 ((rd_T42 t162 (ji40)).f1))) (ds := []) #[false, false, false, false, false, false, false, false, false, false, false, false, false, false, false, false] kk rfl rfl ⟨bc BK154 0, bc BK154 1, bc BK170 0, bc BK170 1⟩ (fun hHeld => ?_); refine with_tabW L2_ZoneReached.tab13 L2_ZoneReached.bits13 (fun HT_ HW_ => ?_)
            generalize w59.drew = w60 at HO_168001 BK154 BK167 BK170 HB hHeld ⊢
            refine pure_ (i := 2) (N := some 122) (v := ?_) (a' := ?_) #[false, false, true, false, false, false, false, false, false, false, false, false, false, false, false, false] rfl rfl (any_of HT_.out kk) (fun _ _ _ h => h) (Or.inl ⟨by rfl, ?_⟩) ?_ ?_
            rotate_left
            ·intro w'
             go_simp
             with_reducible rfl
            rotate_left
            ·simp only [Act.put, List.setIfInBounds_toArray, List.set_cons_zero, List.set_cons_succ, i64_w, i32_w]
             rfl
            refine pure_ (i := 3) (N := some 123) (v := ?_) (a' := ?_) #[false, false, true, true, false, false, false, false, false, false, false, false, false, false, false, false] rfl rfl (any_of HT_.out kk) (fun _ _ _ h => h) (Or.inl ⟨by rfl, ?_⟩) ?_ ?_
            rotate_left
            ·intro w'
             go_simp
             with_reducible rfl
            rotate_left
            ·simp only [Act.put, List.setIfInBounds_toArray, List.set_cons_zero, List.set_cons_succ, i64_w, i32_w]
             rfl
            refine pure_ (i := 4) (N := some 124) (v := ?_) (a' := ?_) #[false, false, true, true, true, false, false, false, false, false, false, false, false, false, false, false] rfl rfl (any_of HT_.out kk) (fun _ _ _ h => h) (Or.inl ⟨by rfl, ?_⟩) ?_ ?_
            rotate_left
            ·intro w'
             go_simp
             with_reducible rfl
            rotate_left
            ·simp only [Act.put, List.setIfInBounds_toArray, List.set_cons_zero, List.set_cons_succ, i64_w, i32_w]
             rfl
            refine take_ (i := 0) (N := some 120) (v := ?_) (a' := ?_) #[true, false, true, true, true, false, false, false, false, false, false, false, false, false, false, false] rfl rfl (take_ofW HT_.out HW_.out kk) (fun _ _ _ h => h) (Or.inl ⟨by rfl, ?_⟩) hHeld ?_ ?_
            rotate_left
            ·rintro w' ⟨s0, s1, s2, s3⟩
             go_simp
             with_reducible rfl
            rotate_left
            ·simp only [Act.put, List.setIfInBounds_toArray, List.set_cons_zero, List.set_cons_succ, i64_w, i32_w]
             rfl
            refine take_ (i := 5) (N := some 125) (v := ?_) (a' := ?_) #[true, false, true, true, true, true, false, false, false, false, false, false, false, false, false, false] rfl rfl (take_ofW HT_.out HW_.out kk) (fun _ _ _ h => h) (Or.inl ⟨by rfl, ?_⟩) hHeld ?_ ?_
            rotate_left
            ·rintro w' ⟨s0, s1, s2, s3⟩
             go_simp
             with_reducible rfl
            rotate_left
            ·simp only [Act.put, List.setIfInBounds_toArray, List.set_cons_zero, List.set_cons_succ, i64_w, i32_w]
             rfl
            refine pure_ (i := 6) (N := some 126) (v := ?_) (a' := ?_) #[true, false, true, true, true, true, true, false, false, false, false, false, false, false, false, false] rfl rfl (any_of HT_.out kk) (fun _ _ _ h => h) (Or.inl ⟨by rfl, ?_⟩) ?_ ?_
            rotate_left
            ·intro w'
             go_simp
             with_reducible rfl
            rotate_left
            ·simp only [Act.put, List.setIfInBounds_toArray, List.set_cons_zero, List.set_cons_succ, i64_w, i32_w]
             rfl
            refine join_ (σ := Value × Value × Nat) 3 #[true, true, true, true, true, true, true, true, true, true, true, true, true, false, false, false] (fun s_ => [(121, .agg #[.int .i64 t183, s_.1]), (127, .tuple #[.agg #[.int .i64 t187, s_.2.1], .bool true, .nilIface]), (15, .pointer (some ⟨s_.2.2, 0, none⟩)), (119, .tuple #[.agg #[.int .i64 t187, s_.2.1], .bool true, .nilIface]), (128, .agg #[.int .i64 t187, s_.2.1]), (129, .bool true), (130, .nilIface)]) (fun s_ w' => (w'.cell? ⟨gb154, 0, none⟩ = some (.int .i64 a0_0) ∧ w'.cell? ⟨gb154, 1, none⟩ = some (.slice A0_1 l0_1.length c0_1) ∧ w'.cell? ⟨gb170, 0, none⟩ = some (.bool true) ∧ w'.cell? ⟨gb170, 1, none⟩ = some (.int .i64 ((rd_T42 t162 (ji40)).f1))) ∧ (Kd.R k42 42 w' w.heap.size (fun k_ => some k_ ≠ (s_.2.1 : Value).ownBlock ∧ some k_ ≠ (.slice (some ad169) t162.length co24 : Value).ownBlock ∧ k_ ≠ gb170) s_.1 t184) ∧ (Kd.R k42 42 w' w.heap.size (fun k_ => some k_ ≠ (s_.1 : Value).ownBlock ∧ some k_ ≠ (.slice (some ad169) t162.length co24 : Value).ownBlock ∧ k_ ≠ gb170) s_.2.1 t188) ∧ (Kd.R k42 42 w' w.heap.size (fun k_ => some k_ ≠ (s_.1 : Value).ownBlock ∧ some k_ ≠ (s_.2.1 : Value).ownBlock ∧ k_ ≠ gb170) (.slice (some ad169) t162.length co24) t162) ∧ (w'.heap[gb154]? = some (.cells #[.int .i64 a0_0, .slice A0_1 l0_1.length c0_1] 33 (0, 0))) ∧ (w'.heap[gb167]? = some (.cells #[.int .i64 t161, .slice (some ad169) t162.length co24] 37 (0, 0))) ∧ (w'.heap[gb170]? = some (.cells #[.bool true, .int .i64 ((rd_T42 t162 (ji40)).f1)] 42 (0, 0))) ∧ (w'.heap[s_.2.2]? = some (.cells #[.int .i64 0, .slice none 0 0] 37 (0, 0))) ∧ (w.heap.size ≤ s_.2.2) ∧ (w.heap.size ≤ s_.2.2) ∧ (gb154 ≠ s_.2.2) ∧ (s_.2.2 ≠ gb154) ∧ (gb167 ≠ s_.2.2) ∧ (s_.2.2 ≠ gb167) ∧ (gb170 ≠ s_.2.2) ∧ (s_.2.2 ≠ gb170) ∧ (Below w.heap.size w w')) ?_ ?_
            rotate_left
            ·intro hCont
             refine two_ (i := 1) (j := 12) (Ni := some 121) (Nj := some 15) #[true, true, true, true, true, true, true, false, false, false, false, false, false, false, false, false] #[true, false, true, true, true, true, true, false, false, false, false, false, true, false, false, false] rfl rfl rfl rfl (two_of HT_.out kk) (by decide) (by decide) (fun K hK => ?_) (fun K hK => ?_)
             ·skip
              refine goes_ Tryd.func23 kk rfl #[.agg #[.int .i64 a0_0, .slice A0_1 l0_1.length c0_1]] (by rfl) rfl rfl (by (try simp only [List.map_toArray, List.map_cons, List.map_nil]); first | done | rfl | (simp only [List.length_drop, List.length_take]; rfl)) ?_
              with_reducible refine (L2_zoneOf.calls kj33 a0_0 _ _ l0_1 t183 t184 _ ?side1 ?side2 A45.out).mono ?_
              (case side1 => repeat (first | exact (Kd.C_below HR0_1.out HB.out) | (with_reducible refine Kd.C_alloc ?_ _) | (with_reducible refine Kd.C_drewN ?_ _) | (with_reducible refine Kd.C_drew ?_)))
              (case side2 => exact HC0_1.out)
              rintro e w61 ⟨v185, rfl, ho0, hb⟩
              refine ⟨_, rfl, ?_⟩
              have n0_ := am (Kd.R_elder' (by (with_reducible repeat (first | apply Kd.R_alloc | apply Kd.R_drewN | apply Kd.R_drew)); exact HO_168001.out) (Kd.R_base ho0) hb)
              have n1_ := am (Kd.R_lower (Kd.R_newB (Kd.R_new' ho0 (Kd.R_lt (by (with_reducible repeat (first | apply Kd.R_alloc | apply Kd.R_drewN | apply Kd.R_drew)); exact HO_168001.out))) (g := gb170) (o := .cells #[.bool true, .int .i64 ((rd_T42 t162 (ji40)).f1)] 42 (0, 0)) pk) (below_size pw))
              have n2_ := bb BK154 hb
              have n3_ := bb BK167 hb
              have n4_ := bb BK170 hb
              have n5_ := am (below_step pw hb)
              clear HO_168001 BK154 BK167 BK170 HB
              revert n0_ n1_ n2_ n3_ n4_ n5_
              intro HO_168001 HO186 BK154 BK167 BK170 HB
              (try clear hb)
              (try clear hb2)
              (try clear hk)
              (try clear hi)
              (try clear ho0)
              obtain ⟨Ao62, co62, eo62⟩ := Kd.R_slice HO186.out
              (first | subst eo62 | (injection eo62 with f1_ f2_ f3_; have f4_ := f1_.symm; have f5_ := f3_.symm; clear f1_ f2_ f3_; subst f4_; subst f5_))
              refine hK.out _ _ ⟨bc BK154 0, bc BK154 1, bc BK170 0, bc BK170 1⟩ (fun hHeld => ?_)
              clear hK K
              refine norm_ (a' := ?_) ?_ ?_
              rotate_left
              ·show Act.put _ (some 121) _ = _
               simp only [Act.put, List.setIfInBounds_toArray, List.set_cons_zero, List.set_cons_succ, i64_w, i32_w]
               rfl
              refine two_ (i := 7) (j := 12) (Ni := some 127) (Nj := some 15) #[true, true, true, true, true, true, true, true, false, false, false, false, false, false, false, false] #[true, true, true, true, true, true, true, false, false, false, false, false, true, false, false, false] rfl rfl rfl rfl (two_of HT_.out kk) (by decide) (by decide) (fun K hK => ?_) (fun K hK => ?_)
              ·skip
               refine goes_ Tryd.func24 kk rfl #[.agg #[.int .i64 t183, .slice Ao62 t184.length co62], .int .i64 a2, .int .i64 a1, .int .i64 (wrap64 (-((rd_T42 t162 (ji40)).f1)))] (by rfl) rfl rfl (by (try simp only [List.map_toArray, List.map_cons, List.map_nil]); first | done | (simp only [hji40]; rfl) | rfl | (simp only [List.length_drop, List.length_take]; rfl)) ?_
               with_reducible refine (zone_Guard.calls t183 _ _ t184 a2 a1 (wrap64 (-((rd_T42 t162 (ji40)).f1))) t187 t188 true none _ ?side1 ?side2 A46.out (am (ErrAt.below hE2.out pw)).out (am (ErrAt.below hE3.out pw)).out).mono ?_
               (case side1 => repeat (first | exact (Kd.R_reads' HO186.out).2.2 | (with_reducible refine Kd.C_alloc ?_ _) | (with_reducible refine Kd.C_drewN ?_ _) | (with_reducible refine Kd.C_drew ?_)))
               (case side2 => exact (Kd.R_reads' HO186.out).2.1)
               rintro e w63 ⟨v189, rfl, ho0, hb⟩
               refine ⟨_, rfl, ?_⟩
               have n0_ := am (Kd.R_elder' (by (with_reducible repeat (first | apply Kd.R_alloc | apply Kd.R_drewN | apply Kd.R_drew)); exact HO_168001.out) (Kd.R_base ho0) hb)
               have n1_ := am (Kd.R_elder' (by (with_reducible repeat (first | apply Kd.R_alloc | apply Kd.R_drewN | apply Kd.R_drew)); exact HO186.out) (Kd.R_base ho0) hb)
               have n2_ := am (Kd.R_lower (Kd.R_newB (Kd.R_new' (Kd.R_new' ho0 (Kd.R_lt (by (with_reducible repeat (first | apply Kd.R_alloc | apply Kd.R_drewN | apply Kd.R_drew)); exact HO_168001.out))) (Kd.R_lt (by (with_reducible repeat (first | apply Kd.R_alloc | apply Kd.R_drewN | apply Kd.R_drew)); exact HO186.out))) (g := gb170) (o := .cells #[.bool true, .int .i64 ((rd_T42 t162 (ji40)).f1)] 42 (0, 0)) pk) (below_size pw))
               have n3_ := bb BK154 hb
               have n4_ := bb BK167 hb
               have n5_ := bb BK170 hb
               have n6_ := am (below_step pw hb)
               clear HO_168001 HO186 BK154 BK167 BK170 HB
               revert n0_ n1_ n2_ n3_ n4_ n5_ n6_
               intro HO_168001 HO186 HO190 BK154 BK167 BK170 HB
               (try clear hb)
               (try clear hb2)
               (try clear hk)
               (try clear hi)
               (try clear ho0)
               (try simp only [errW_none, errW_some])
               refine hK.out _ _ ⟨bc BK154 0, bc BK154 1, bc BK170 0, bc BK170 1⟩ (fun hHeld => ?_)
               clear hK K
               refine norm_ (a' := ?_) ?_ ?_
               rotate_left
               ·show Act.put _ (some 127) _ = _
                simp only [Act.put, List.setIfInBounds_toArray, List.set_cons_zero, List.set_cons_succ, i64_w, i32_w]
                rfl
               refine pure_ (i := 8) (N := some 119) (v := ?_) (a' := ?_) #[true, true, true, true, true, true, true, true, true, false, false, false, false, false, false, false] rfl rfl (any_of HT_.out kk) (fun _ _ _ h => h) (Or.inl ⟨by rfl, ?_⟩) ?_ ?_
               rotate_left
               ·intro w'
                go_simp
                with_reducible rfl
               rotate_left
               ·simp only [Act.put, List.setIfInBounds_toArray, List.set_cons_zero, List.set_cons_succ, i64_w, i32_w]
                rfl
               refine pure_ (i := 9) (N := some 128) (v := ?_) (a' := ?_) #[true, true, true, true, true, true, true, true, true, true, false, false, false, false, false, false] rfl rfl (any_of HT_.out kk) (fun _ _ _ h => h) (Or.inl ⟨by rfl, ?_⟩) ?_ ?_
               rotate_left
               ·intro w'
                go_simp
                with_reducible rfl
               rotate_left
               ·simp only [Act.put, List.setIfInBounds_toArray, List.set_cons_zero, List.set_cons_succ, i64_w, i32_w]
                rfl
               refine pure_ (i := 10) (N := some 129) (v := ?_) (a' := ?_) #[true, true, true, true, true, true, true, true, true, true, true, false, false, false, false, false] rfl rfl (any_of HT_.out kk) (fun _ _ _ h => h) (Or.inl ⟨by rfl, ?_⟩) ?_ ?_
               rotate_left
               ·intro w'
                go_simp
                with_reducible rfl
               rotate_left
               ·simp only [Act.put, List.setIfInBounds_toArray, List.set_cons_zero, List.set_cons_succ, i64_w, i32_w]
                rfl
               refine pure_ (i := 11) (N := some 130) (v := ?_) (a' := ?_) #[true, true, true, true, true, true, true, true, true, true, true, true, false, false, false, false] rfl rfl (any_of HT_.out kk) (fun _ _ _ h => h) (Or.inl ⟨by rfl, ?_⟩) ?_ ?_
               rotate_left
               ·intro w'
                go_simp
                with_reducible rfl
               rotate_left
               ·simp only [Act.put, List.setIfInBounds_toArray, List.set_cons_zero, List.set_cons_succ, i64_w, i32_w]
                rfl
               refine one_ (i := 12) (N := some 15) #[true, true, true, true, true, true, true, true, true, true, true, true, true, false, false, false] rfl rfl (one_of HT_.out kk) (by decide) (fun K hK => ?_)
               refine box_step ?hg (N := 15) ?hd (cs := #[.int .i64 0, .slice none 0 0]) (t := 37) ?hr ?_; (case hd => rfl); (case hg => rfl); (case hr => first | (go_simp; done) | (go_simp; rfl))
               intro gb193 hg w64 hbox hb
               have n0_ := am (Kd.R_below (by (with_reducible repeat (first | apply Kd.R_alloc | apply Kd.R_drewN | apply Kd.R_drew)); exact HO_168001.out) hb)
               have n1_ := am (Kd.R_below (by (with_reducible repeat (first | apply Kd.R_alloc | apply Kd.R_drewN | apply Kd.R_drew)); exact HO186.out) hb)
               have n2_ := am (Kd.R_below (by (with_reducible repeat (first | apply Kd.R_alloc | apply Kd.R_drewN | apply Kd.R_drew)); exact HO190.out) hb)
               have n3_ := bb BK154 hb
               have n4_ := bb BK167 hb
               have n5_ := bb BK170 hb
               have n6_ := am (below_step pw hb)
               have n7_ := am (hbox)
               have n8_ := am ((by rw [hg]; exact (below_size pw) : w.heap.size ≤ gb193))
               have n9_ := am ((by rw [hg]; exact (below_size pw) : w.heap.size ≤ gb193))
               have n10_ := am ((by rw [hg]; exact Nat.ne_of_lt (blk_lt pk) : gb154 ≠ gb193))
               have n11_ := am ((by rw [hg]; exact Nat.ne_of_gt (blk_lt pk) : gb193 ≠ gb154))
               have n12_ := am ((by rw [hg]; exact Nat.ne_of_lt (blk_lt pk) : gb167 ≠ gb193))
               have n13_ := am ((by rw [hg]; exact Nat.ne_of_gt (blk_lt pk) : gb193 ≠ gb167))
               have n14_ := am ((by rw [hg]; exact Nat.ne_of_lt (blk_lt pk) : gb170 ≠ gb193))
               have n15_ := am ((by rw [hg]; exact Nat.ne_of_gt (blk_lt pk) : gb193 ≠ gb170))
               clear HO_168001 HO186 HO190 BK154 BK167 BK170 HB
               revert n0_ n1_ n2_ n3_ n4_ n5_ n6_ n7_ n8_ n9_ n10_ n11_ n12_ n13_ n14_ n15_
               intro HO_168001 HO186 HO190 BK154 BK167 BK170 HB BK193 GW193 GE193 NB154_193 NB193_154 NB167_193 NB193_167 NB170_193 NB193_170
               clear hb hbox hg
               refine hK.out _ _ ⟨bc BK154 0, bc BK154 1, bc BK170 0, bc BK170 1⟩ (fun hHeld => ?_)
               clear hK K
               refine norm_ (a' := ?_) ?_ ?_
               rotate_left
               ·show Act.put _ (some 15) _ = _
                simp only [Act.put, List.setIfInBounds_toArray, List.set_cons_zero, List.set_cons_succ, i64_w, i32_w]
                rfl
               exact norm_ (by simp only [putAll, Act.put, List.setIfInBounds_toArray, List.set_cons_zero, List.set_cons_succ, errW_none, errW_some]) (hCont (.slice Ao62 t184.length co62, v189, gb193) _ ⟨hHeld, (by (with_reducible repeat (first | apply Kd.R_alloc | apply Kd.R_drewN | apply Kd.R_drew)); exact Kd.R_mono HO186.out (fun _ hk => ⟨hk.2, ⟨hk.1.1.2, hk.1.2⟩⟩)), (by (with_reducible repeat (first | apply Kd.R_alloc | apply Kd.R_drewN | apply Kd.R_drew)); exact Kd.R_mono HO190.out (fun _ hk => ⟨hk.1.2, ⟨hk.1.1.2, hk.2⟩⟩)), (by (with_reducible repeat (first | apply Kd.R_alloc | apply Kd.R_drewN | apply Kd.R_drew)); exact Kd.R_mono HO_168001.out (fun _ hk => ⟨hk.1.2, ⟨hk.2, hk.1.1⟩⟩)), pk, pk, pk, pk, GW193.out, GE193.out, NB154_193.out, NB193_154.out, NB167_193.out, NB193_167.out, NB170_193.out, NB193_170.out, pw⟩)
              skip
              refine box_step ?hg (N := 15) ?hd (cs := #[.int .i64 0, .slice none 0 0]) (t := 37) ?hr ?_; (case hd => rfl); (case hg => rfl); (case hr => first | (go_simp; done) | (go_simp; rfl))
              intro gb193 hg w62 hbox hb
              have n0_ := am (Kd.R_below (by (with_reducible repeat (first | apply Kd.R_alloc | apply Kd.R_drewN | apply Kd.R_drew)); exact HO_168001.out) hb)
              have n1_ := am (Kd.R_below (by (with_reducible repeat (first | apply Kd.R_alloc | apply Kd.R_drewN | apply Kd.R_drew)); exact HO186.out) hb)
              have n2_ := bb BK154 hb
              have n3_ := bb BK167 hb
              have n4_ := bb BK170 hb
              have n5_ := am (below_step pw hb)
              have n6_ := am (hbox)
              have n7_ := am ((by rw [hg]; exact (below_size pw) : w.heap.size ≤ gb193))
              have n8_ := am ((by rw [hg]; exact (below_size pw) : w.heap.size ≤ gb193))
              have n9_ := am ((by rw [hg]; exact Nat.ne_of_lt (blk_lt pk) : gb154 ≠ gb193))
              have n10_ := am ((by rw [hg]; exact Nat.ne_of_gt (blk_lt pk) : gb193 ≠ gb154))
              have n11_ := am ((by rw [hg]; exact Nat.ne_of_lt (blk_lt pk) : gb167 ≠ gb193))
              have n12_ := am ((by rw [hg]; exact Nat.ne_of_gt (blk_lt pk) : gb193 ≠ gb167))
              have n13_ := am ((by rw [hg]; exact Nat.ne_of_lt (blk_lt pk) : gb170 ≠ gb193))
              have n14_ := am ((by rw [hg]; exact Nat.ne_of_gt (blk_lt pk) : gb193 ≠ gb170))
              clear HO_168001 HO186 BK154 BK167 BK170 HB
              revert n0_ n1_ n2_ n3_ n4_ n5_ n6_ n7_ n8_ n9_ n10_ n11_ n12_ n13_ n14_
              intro HO_168001 HO186 BK154 BK167 BK170 HB BK193 GW193 GE193 NB154_193 NB193_154 NB167_193 NB193_167 NB170_193 NB193_170
              clear hb hbox hg
              obtain ⟨Ao63, co63, eo63⟩ := Kd.R_slice HO186.out
              (first | subst eo63 | (injection eo63 with f1_ f2_ f3_; have f4_ := f1_.symm; have f5_ := f3_.symm; clear f1_ f2_ f3_; subst f4_; subst f5_))
              refine hK.out _ _ ⟨bc BK154 0, bc BK154 1, bc BK170 0, bc BK170 1⟩ (fun hHeld => ?_)
              clear hK K
              refine norm_ (a' := ?_) ?_ ?_
              rotate_left
              ·show Act.put _ (some 15) _ = _
               simp only [Act.put, List.setIfInBounds_toArray, List.set_cons_zero, List.set_cons_succ, i64_w, i32_w]
               rfl
              refine one_ (i := 7) (N := some 127) #[true, true, true, true, true, true, true, true, false, false, false, false, true, false, false, false] rfl rfl (one_of HT_.out kk) (by decide) (fun K hK => ?_)
              refine goes_ Tryd.func24 kk rfl #[.agg #[.int .i64 t183, .slice Ao63 t184.length co63], .int .i64 a2, .int .i64 a1, .int .i64 (wrap64 (-((rd_T42 t162 (ji40)).f1)))] (by rfl) rfl rfl (by (try simp only [List.map_toArray, List.map_cons, List.map_nil]); first | done | (simp only [hji40]; rfl) | rfl | (simp only [List.length_drop, List.length_take]; rfl)) ?_
              with_reducible refine (zone_Guard.calls t183 _ _ t184 a2 a1 (wrap64 (-((rd_T42 t162 (ji40)).f1))) t187 t188 true none _ ?side1 ?side2 A46.out (am (ErrAt.below hE2.out pw)).out (am (ErrAt.below hE3.out pw)).out).mono ?_
              (case side1 => repeat (first | exact (Kd.R_reads' HO186.out).2.2 | (with_reducible refine Kd.C_alloc ?_ _) | (with_reducible refine Kd.C_drewN ?_ _) | (with_reducible refine Kd.C_drew ?_)))
              (case side2 => exact (Kd.R_reads' HO186.out).2.1)
              rintro e w64 ⟨v189, rfl, ho0, hb⟩
              refine ⟨_, rfl, ?_⟩
              have n0_ := am (Kd.R_elder' (by (with_reducible repeat (first | apply Kd.R_alloc | apply Kd.R_drewN | apply Kd.R_drew)); exact HO_168001.out) (Kd.R_base ho0) hb)
              have n1_ := am (Kd.R_elder' (by (with_reducible repeat (first | apply Kd.R_alloc | apply Kd.R_drewN | apply Kd.R_drew)); exact HO186.out) (Kd.R_base ho0) hb)
              have n2_ := am (Kd.R_lower (Kd.R_newB (Kd.R_new' (Kd.R_new' ho0 (Kd.R_lt (by (with_reducible repeat (first | apply Kd.R_alloc | apply Kd.R_drewN | apply Kd.R_drew)); exact HO_168001.out))) (Kd.R_lt (by (with_reducible repeat (first | apply Kd.R_alloc | apply Kd.R_drewN | apply Kd.R_drew)); exact HO186.out))) (g := gb170) (o := .cells #[.bool true, .int .i64 ((rd_T42 t162 (ji40)).f1)] 42 (0, 0)) pk) (below_size pw))
              have n3_ := bb BK154 hb
              have n4_ := bb BK167 hb
              have n5_ := bb BK170 hb
              have n6_ := bb BK193 hb
              have n7_ := am (below_step pw hb)
              clear HO_168001 HO186 BK154 BK167 BK170 BK193 HB
              revert n0_ n1_ n2_ n3_ n4_ n5_ n6_ n7_
              intro HO_168001 HO186 HO190 BK154 BK167 BK170 BK193 HB
              (try clear hb)
              (try clear hb2)
              (try clear hk)
              (try clear hi)
              (try clear ho0)
              (try simp only [errW_none, errW_some])
              refine hK.out _ _ ⟨bc BK154 0, bc BK154 1, bc BK170 0, bc BK170 1⟩ (fun hHeld => ?_)
              clear hK K
              refine norm_ (a' := ?_) ?_ ?_
              rotate_left
              ·show Act.put _ (some 127) _ = _
               simp only [Act.put, List.setIfInBounds_toArray, List.set_cons_zero, List.set_cons_succ, i64_w, i32_w]
               rfl
              refine pure_ (i := 8) (N := some 119) (v := ?_) (a' := ?_) #[true, true, true, true, true, true, true, true, true, false, false, false, true, false, false, false] rfl rfl (any_of HT_.out kk) (fun _ _ _ h => h) (Or.inl ⟨by rfl, ?_⟩) ?_ ?_
              rotate_left
              ·intro w'
               go_simp
               with_reducible rfl
              rotate_left
              ·simp only [Act.put, List.setIfInBounds_toArray, List.set_cons_zero, List.set_cons_succ, i64_w, i32_w]
               rfl
              refine pure_ (i := 9) (N := some 128) (v := ?_) (a' := ?_) #[true, true, true, true, true, true, true, true, true, true, false, false, true, false, false, false] rfl rfl (any_of HT_.out kk) (fun _ _ _ h => h) (Or.inl ⟨by rfl, ?_⟩) ?_ ?_
              rotate_left
              ·intro w'
               go_simp
               with_reducible rfl
              rotate_left
              ·simp only [Act.put, List.setIfInBounds_toArray, List.set_cons_zero, List.set_cons_succ, i64_w, i32_w]
               rfl
              refine pure_ (i := 10) (N := some 129) (v := ?_) (a' := ?_) #[true, true, true, true, true, true, true, true, true, true, true, false, true, false, false, false] rfl rfl (any_of HT_.out kk) (fun _ _ _ h => h) (Or.inl ⟨by rfl, ?_⟩) ?_ ?_
              rotate_left
              ·intro w'
               go_simp
               with_reducible rfl
              rotate_left
              ·simp only [Act.put, List.setIfInBounds_toArray, List.set_cons_zero, List.set_cons_succ, i64_w, i32_w]
               rfl
              refine pure_ (i := 11) (N := some 130) (v := ?_) (a' := ?_) #[true, true, true, true, true, true, true, true, true, true, true, true, true, false, false, false] rfl rfl (any_of HT_.out kk) (fun _ _ _ h => h) (Or.inl ⟨by rfl, ?_⟩) ?_ ?_
              rotate_left
              ·intro w'
               go_simp
               with_reducible rfl
              rotate_left
              ·simp only [Act.put, List.setIfInBounds_toArray, List.set_cons_zero, List.set_cons_succ, i64_w, i32_w]
               rfl
              exact norm_ (by simp only [putAll, Act.put, List.setIfInBounds_toArray, List.set_cons_zero, List.set_cons_succ, errW_none, errW_some]) (hCont (.slice Ao63 t184.length co63, v189, gb193) _ ⟨hHeld, (by (with_reducible repeat (first | apply Kd.R_alloc | apply Kd.R_drewN | apply Kd.R_drew)); exact Kd.R_mono HO186.out (fun _ hk => ⟨hk.2, ⟨hk.1.1.2, hk.1.2⟩⟩)), (by (with_reducible repeat (first | apply Kd.R_alloc | apply Kd.R_drewN | apply Kd.R_drew)); exact Kd.R_mono HO190.out (fun _ hk => ⟨hk.1.2, ⟨hk.1.1.2, hk.2⟩⟩)), (by (with_reducible repeat (first | apply Kd.R_alloc | apply Kd.R_drewN | apply Kd.R_drew)); exact Kd.R_mono HO_168001.out (fun _ hk => ⟨hk.1.2, ⟨hk.2, hk.1.1⟩⟩)), pk, pk, pk, pk, GW193.out, GE193.out, NB154_193.out, NB193_154.out, NB167_193.out, NB193_167.out, NB170_193.out, NB193_170.out, pw⟩)
             skip
             refine box_step ?hg (N := 15) ?hd (cs := #[.int .i64 0, .slice none 0 0]) (t := 37) ?hr ?_; (case hd => rfl); (case hg => rfl); (case hr => first | (go_simp; done) | (go_simp; rfl))
             intro gb193 hg w61 hbox hb
             have n0_ := am (Kd.R_below (by (with_reducible repeat (first | apply Kd.R_alloc | apply Kd.R_drewN | apply Kd.R_drew)); exact HO_168001.out) hb)
             have n1_ := bb BK154 hb
             have n2_ := bb BK167 hb
             have n3_ := bb BK170 hb
             have n4_ := am (below_step pw hb)
             have n5_ := am (hbox)
             have n6_ := am ((by rw [hg]; exact (below_size pw) : w.heap.size ≤ gb193))
             have n7_ := am ((by rw [hg]; exact (below_size pw) : w.heap.size ≤ gb193))
             have n8_ := am ((by rw [hg]; exact Nat.ne_of_lt (blk_lt pk) : gb154 ≠ gb193))
             have n9_ := am ((by rw [hg]; exact Nat.ne_of_gt (blk_lt pk) : gb193 ≠ gb154))
             have n10_ := am ((by rw [hg]; exact Nat.ne_of_lt (blk_lt pk) : gb167 ≠ gb193))
             have n11_ := am ((by rw [hg]; exact Nat.ne_of_gt (blk_lt pk) : gb193 ≠ gb167))
             have n12_ := am ((by rw [hg]; exact Nat.ne_of_lt (blk_lt pk) : gb170 ≠ gb193))
             have n13_ := am ((by rw [hg]; exact Nat.ne_of_gt (blk_lt pk) : gb193 ≠ gb170))
             clear HO_168001 BK154 BK167 BK170 HB
             revert n0_ n1_ n2_ n3_ n4_ n5_ n6_ n7_ n8_ n9_ n10_ n11_ n12_ n13_
             intro HO_168001 BK154 BK167 BK170 HB BK193 GW193 GE193 NB154_193 NB193_154 NB167_193 NB193_167 NB170_193 NB193_170
             clear hb hbox hg
             refine hK.out _ _ ⟨bc BK154 0, bc BK154 1, bc BK170 0, bc BK170 1⟩ (fun hHeld => ?_)
             clear hK K
             refine norm_ (a' := ?_) ?_ ?_
             rotate_left
             ·show Act.put _ (some 15) _ = _
              simp only [Act.put, List.setIfInBounds_toArray, List.set_cons_zero, List.set_cons_succ, i64_w, i32_w]
              rfl
             refine one_ (i := 1) (N := some 121) #[true, true, true, true, true, true, true, false, false, false, false, false, true, false, false, false] rfl rfl (one_of HT_.out kk) (by decide) (fun K hK => ?_)
             refine goes_ Tryd.func23 kk rfl #[.agg #[.int .i64 a0_0, .slice A0_1 l0_1.length c0_1]] (by rfl) rfl rfl (by (try simp only [List.map_toArray, List.map_cons, List.map_nil]); first | done | rfl | (simp only [List.length_drop, List.length_take]; rfl)) ?_
             with_reducible refine (L2_zoneOf.calls kj33 a0_0 _ _ l0_1 t183 t184 _ ?side1 ?side2 A45.out).mono ?_
             (case side1 => repeat (first | exact (Kd.C_below HR0_1.out HB.out) | (with_reducible refine Kd.C_alloc ?_ _) | (with_reducible refine Kd.C_drewN ?_ _) | (with_reducible refine Kd.C_drew ?_)))
             (case side2 => exact HC0_1.out)
             rintro e w62 ⟨v185, rfl, ho0, hb⟩
             refine ⟨_, rfl, ?_⟩
             have n0_ := am (Kd.R_elder' (by (with_reducible repeat (first | apply Kd.R_alloc | apply Kd.R_drewN | apply Kd.R_drew)); exact HO_168001.out) (Kd.R_base ho0) hb)
             have n1_ := am (Kd.R_lower (Kd.R_newB (Kd.R_new' ho0 (Kd.R_lt (by (with_reducible repeat (first | apply Kd.R_alloc | apply Kd.R_drewN | apply Kd.R_drew)); exact HO_168001.out))) (g := gb170) (o := .cells #[.bool true, .int .i64 ((rd_T42 t162 (ji40)).f1)] 42 (0, 0)) pk) (below_size pw))
             have n2_ := bb BK154 hb
             have n3_ := bb BK167 hb
             have n4_ := bb BK170 hb
             have n5_ := bb BK193 hb
             have n6_ := am (below_step pw hb)
             clear HO_168001 BK154 BK167 BK170 BK193 HB
             revert n0_ n1_ n2_ n3_ n4_ n5_ n6_
             intro HO_168001 HO186 BK154 BK167 BK170 BK193 HB
             (try clear hb)
             (try clear hb2)
             (try clear hk)
             (try clear hi)
             (try clear ho0)
             obtain ⟨Ao63, co63, eo63⟩ := Kd.R_slice HO186.out
             (first | subst eo63 | (injection eo63 with f1_ f2_ f3_; have f4_ := f1_.symm; have f5_ := f3_.symm; clear f1_ f2_ f3_; subst f4_; subst f5_))
             refine hK.out _ _ ⟨bc BK154 0, bc BK154 1, bc BK170 0, bc BK170 1⟩ (fun hHeld => ?_)
             clear hK K
             refine norm_ (a' := ?_) ?_ ?_
             rotate_left
             ·show Act.put _ (some 121) _ = _
              simp only [Act.put, List.setIfInBounds_toArray, List.set_cons_zero, List.set_cons_succ, i64_w, i32_w]
              rfl
             refine one_ (i := 7) (N := some 127) #[true, true, true, true, true, true, true, true, false, false, false, false, true, false, false, false] rfl rfl (one_of HT_.out kk) (by decide) (fun K hK => ?_)
             refine goes_ Tryd.func24 kk rfl #[.agg #[.int .i64 t183, .slice Ao63 t184.length co63], .int .i64 a2, .int .i64 a1, .int .i64 (wrap64 (-((rd_T42 t162 (ji40)).f1)))] (by rfl) rfl rfl (by (try simp only [List.map_toArray, List.map_cons, List.map_nil]); first | done | (simp only [hji40]; rfl) | rfl | (simp only [List.length_drop, List.length_take]; rfl)) ?_
             with_reducible refine (zone_Guard.calls t183 _ _ t184 a2 a1 (wrap64 (-((rd_T42 t162 (ji40)).f1))) t187 t188 true none _ ?side1 ?side2 A46.out (am (ErrAt.below hE2.out pw)).out (am (ErrAt.below hE3.out pw)).out).mono ?_
             (case side1 => repeat (first | exact (Kd.R_reads' HO186.out).2.2 | (with_reducible refine Kd.C_alloc ?_ _) | (with_reducible refine Kd.C_drewN ?_ _) | (with_reducible refine Kd.C_drew ?_)))
             (case side2 => exact (Kd.R_reads' HO186.out).2.1)
             rintro e w64 ⟨v189, rfl, ho0, hb⟩
             refine ⟨_, rfl, ?_⟩
             have n0_ := am (Kd.R_elder' (by (with_reducible repeat (first | apply Kd.R_alloc | apply Kd.R_drewN | apply Kd.R_drew)); exact HO_168001.out) (Kd.R_base ho0) hb)
             have n1_ := am (Kd.R_elder' (by (with_reducible repeat (first | apply Kd.R_alloc | apply Kd.R_drewN | apply Kd.R_drew)); exact HO186.out) (Kd.R_base ho0) hb)
             have n2_ := am (Kd.R_lower (Kd.R_newB (Kd.R_new' (Kd.R_new' ho0 (Kd.R_lt (by (with_reducible repeat (first | apply Kd.R_alloc | apply Kd.R_drewN | apply Kd.R_drew)); exact HO_168001.out))) (Kd.R_lt (by (with_reducible repeat (first | apply Kd.R_alloc | apply Kd.R_drewN | apply Kd.R_drew)); exact HO186.out))) (g := gb170) (o := .cells #[.bool true, .int .i64 ((rd_T42 t162 (ji40)).f1)] 42 (0, 0)) pk) (below_size pw))
             have n3_ := bb BK154 hb
             have n4_ := bb BK167 hb
             have n5_ := bb BK170 hb
             have n6_ := bb BK193 hb
             have n7_ := am (below_step pw hb)
             clear HO_168001 HO186 BK154 BK167 BK170 BK193 HB
             revert n0_ n1_ n2_ n3_ n4_ n5_ n6_ n7_
             intro HO_168001 HO186 HO190 BK154 BK167 BK170 BK193 HB
             (try clear hb)
             (try clear hb2)
             (try clear hk)
             (try clear hi)
             (try clear ho0)
             (try simp only [errW_none, errW_some])
             refine hK.out _ _ ⟨bc BK154 0, bc BK154 1, bc BK170 0, bc BK170 1⟩ (fun hHeld => ?_)
             clear hK K
             refine norm_ (a' := ?_) ?_ ?_
             rotate_left
             ·show Act.put _ (some 127) _ = _
              simp only [Act.put, List.setIfInBounds_toArray, List.set_cons_zero, List.set_cons_succ, i64_w, i32_w]
              rfl
             refine pure_ (i := 8) (N := some 119) (v := ?_) (a' := ?_) #[true, true, true, true, true, true, true, true, true, false, false, false, true, false, false, false] rfl rfl (any_of HT_.out kk) (fun _ _ _ h => h) (Or.inl ⟨by rfl, ?_⟩) ?_ ?_
             rotate_left
             ·intro w'
              go_simp
              with_reducible rfl
             rotate_left
             ·simp only [Act.put, List.setIfInBounds_toArray, List.set_cons_zero, List.set_cons_succ, i64_w, i32_w]
              rfl
             refine pure_ (i := 9) (N := some 128) (v := ?_) (a' := ?_) #[true, true, true, true, true, true, true, true, true, true, false, false, true, false, false, false] rfl rfl (any_of HT_.out kk) (fun _ _ _ h => h) (Or.inl ⟨by rfl, ?_⟩) ?_ ?_
             rotate_left
             ·intro w'
              go_simp
              with_reducible rfl
             rotate_left
             ·simp only [Act.put, List.setIfInBounds_toArray, List.set_cons_zero, List.set_cons_succ, i64_w, i32_w]
              rfl
             refine pure_ (i := 10) (N := some 129) (v := ?_) (a' := ?_) #[true, true, true, true, true, true, true, true, true, true, true, false, true, false, false, false] rfl rfl (any_of HT_.out kk) (fun _ _ _ h => h) (Or.inl ⟨by rfl, ?_⟩) ?_ ?_
             rotate_left
             ·intro w'
              go_simp
              with_reducible rfl
             rotate_left
             ·simp only [Act.put, List.setIfInBounds_toArray, List.set_cons_zero, List.set_cons_succ, i64_w, i32_w]
              rfl
             refine pure_ (i := 11) (N := some 130) (v := ?_) (a' := ?_) #[true, true, true, true, true, true, true, true, true, true, true, true, true, false, false, false] rfl rfl (any_of HT_.out kk) (fun _ _ _ h => h) (Or.inl ⟨by rfl, ?_⟩) ?_ ?_
             rotate_left
             ·intro w'
              go_simp
              with_reducible rfl
             rotate_left
             ·simp only [Act.put, List.setIfInBounds_toArray, List.set_cons_zero, List.set_cons_succ, i64_w, i32_w]
              rfl
             exact norm_ (by simp only [putAll, Act.put, List.setIfInBounds_toArray, List.set_cons_zero, List.set_cons_succ, errW_none, errW_some]) (hCont (.slice Ao63 t184.length co63, v189, gb193) _ ⟨hHeld, (by (with_reducible repeat (first | apply Kd.R_alloc | apply Kd.R_drewN | apply Kd.R_drew)); exact Kd.R_mono HO186.out (fun _ hk => ⟨hk.2, ⟨hk.1.1.2, hk.1.2⟩⟩)), (by (with_reducible repeat (first | apply Kd.R_alloc | apply Kd.R_drewN | apply Kd.R_drew)); exact Kd.R_mono HO190.out (fun _ hk => ⟨hk.1.2, ⟨hk.1.1.2, hk.2⟩⟩)), (by (with_reducible repeat (first | apply Kd.R_alloc | apply Kd.R_drewN | apply Kd.R_drew)); exact Kd.R_mono HO_168001.out (fun _ hk => ⟨hk.1.2, ⟨hk.2, hk.1.1⟩⟩)), pk, pk, pk, pk, GW193.out, GE193.out, NB154_193.out, NB193_154.out, NB167_193.out, NB193_167.out, NB170_193.out, NB193_170.out, pw⟩)
            rintro ⟨v185, v189, gb193⟩ w65 ⟨hS_, h0_, h1_, h2_, h3_, h4_, h5_, h6_, h7_, h8_, h9_, h10_, h11_, h12_, h13_, h14_, h15_⟩
            have n0_ : Aside0 (Kd.R k42 42 w65 w.heap.size (fun k_ => some k_ ≠ (v189 : Value).ownBlock ∧ some k_ ≠ (.slice (some ad169) t162.length co24 : Value).ownBlock ∧ k_ ≠ gb170) v185 t184) := ⟨h0_⟩
            have n1_ : Aside0 (Kd.R k42 42 w65 w.heap.size (fun k_ => some k_ ≠ (v185 : Value).ownBlock ∧ some k_ ≠ (.slice (some ad169) t162.length co24 : Value).ownBlock ∧ k_ ≠ gb170) v189 t188) := ⟨h1_⟩
            have n2_ : Aside0 (Kd.R k42 42 w65 w.heap.size (fun k_ => some k_ ≠ (v185 : Value).ownBlock ∧ some k_ ≠ (v189 : Value).ownBlock ∧ k_ ≠ gb170) (.slice (some ad169) t162.length co24) t162) := ⟨h2_⟩
            have n3_ : Aside0 (w65.heap[gb154]? = some (.cells #[.int .i64 a0_0, .slice A0_1 l0_1.length c0_1] 33 (0, 0))) := ⟨h3_⟩
            have n4_ : Aside0 (w65.heap[gb167]? = some (.cells #[.int .i64 t161, .slice (some ad169) t162.length co24] 37 (0, 0))) := ⟨h4_⟩
            have n5_ : Aside0 (w65.heap[gb170]? = some (.cells #[.bool true, .int .i64 ((rd_T42 t162 (ji40)).f1)] 42 (0, 0))) := ⟨h5_⟩
            have n6_ : Aside0 (w65.heap[gb193]? = some (.cells #[.int .i64 0, .slice none 0 0] 37 (0, 0))) := ⟨h6_⟩
            have n7_ : Aside0 (w.heap.size ≤ gb193) := ⟨h7_⟩
            have n8_ : Aside0 (w.heap.size ≤ gb193) := ⟨h8_⟩
            have n9_ : Aside0 (gb154 ≠ gb193) := ⟨h9_⟩
            have n10_ : Aside0 (gb193 ≠ gb154) := ⟨h10_⟩
            have n11_ : Aside0 (gb167 ≠ gb193) := ⟨h11_⟩
            have n12_ : Aside0 (gb193 ≠ gb167) := ⟨h12_⟩
            have n13_ : Aside0 (gb170 ≠ gb193) := ⟨h13_⟩
            have n14_ : Aside0 (gb193 ≠ gb170) := ⟨h14_⟩
            have n15_ : Aside0 (Below w.heap.size w w65) := ⟨h15_⟩
            clear HO_168001
            clear BK154
            clear BK167
            clear BK170
            clear HB
            clear h0_ h1_ h2_ h3_ h4_ h5_ h6_ h7_ h8_ h9_ h10_ h11_ h12_ h13_ h14_ h15_
            revert n0_ n1_ n2_ n3_ n4_ n5_ n6_ n7_ n8_ n9_ n10_ n11_ n12_ n13_ n14_ n15_
            intro HO186 HO190 HO_168001 BK154 BK167 BK170 BK193 GW193 GE193 NB154_193 NB193_154 NB167_193 NB193_167 NB170_193 NB193_170 HB
            have hHeld : w65.cell? ⟨gb154, 0, none⟩ = some (.int .i64 a0_0) ∧ w65.cell? ⟨gb154, 1, none⟩ = some (.slice A0_1 l0_1.length c0_1) ∧ w65.cell? ⟨gb170, 0, none⟩ = some (.bool true) ∧ w65.cell? ⟨gb170, 1, none⟩ = some (.int .i64 ((rd_T42 t162 (ji40)).f1)) := hS_
            obtain ⟨Ao67, co67, eo67⟩ := Kd.R_slice HO190.out
            (first | subst eo67 | (injection eo67 with f1_ f2_ f3_; have f4_ := f1_.symm; have f5_ := f3_.symm; clear f1_ f2_ f3_; subst f4_; subst f5_))
            refine norm_ (a' := ?_) ?_ ?_
            rotate_left
            ·simp only [putAll, Act.put, List.setIfInBounds_toArray, List.set_cons_zero, List.set_cons_succ]
             rfl
            refine one_ (i := 13) (N := none) #[true, true, true, true, true, true, true, true, true, true, true, true, true, true, false, false] rfl rfl (one_of HT_.out kk) (by decide) (fun K hK => ?_)
            have hs66 : w65.cell? ⟨gb193, 0, none⟩ = some (.int .i64 0) := bc BK193 0
            have hfs66 := blk_frozen BK193.out 0
            have hns66_0 := NB154_193.out
            have hns66_1 := NB167_193.out
            have hns66_2 := NB170_193.out
            have hms66_0 := NB193_154.out
            have hms66_1 := NB193_167.out
            have hms66_2 := NB193_170.out
            have hs68 : w65.cell? ⟨gb193, 1, none⟩ = some (.slice none 0 0) := bc BK193 1
            have hfs68 := blk_frozen BK193.out 1
            have hns68_0 := NB154_193.out
            have hns68_1 := NB167_193.out
            have hns68_2 := NB170_193.out
            have hms68_0 := NB193_154.out
            have hms68_1 := NB193_167.out
            have hms68_2 := NB193_170.out
            refine skip_ (w1 := ?_) (by rfl) rfl ?_ ?_
            rotate_left
            ·go_simp
             rfl
            refine hK.out _ _ ⟨((cell_far (p := ⟨gb193, _, none⟩) NB154_193.out _).trans (((cell_far (p := ⟨gb193, _, none⟩) NB154_193.out _).trans (hHeld.1)))), ((cell_far (p := ⟨gb193, _, none⟩) NB154_193.out _).trans (((cell_far (p := ⟨gb193, _, none⟩) NB154_193.out _).trans (hHeld.2.1)))), ((cell_far (p := ⟨gb193, _, none⟩) NB170_193.out _).trans (((cell_far (p := ⟨gb193, _, none⟩) NB170_193.out _).trans (hHeld.2.2.1)))), ((cell_far (p := ⟨gb193, _, none⟩) NB170_193.out _).trans (((cell_far (p := ⟨gb193, _, none⟩) NB170_193.out _).trans (hHeld.2.2.2))))⟩ (fun hHeld => ?_)
            clear hK K
            refine pure_ (i := 14) (N := some 9) (v := ?_) (a' := ?_) #[true, true, true, true, true, true, true, true, true, true, true, true, true, true, true, false] rfl rfl (any_of HT_.out kk) (fun _ _ _ h => h) (Or.inl ⟨by rfl, ?_⟩) ?_ ?_
            rotate_left
            ·intro w'
             go_simp
             with_reducible rfl
            rotate_left
            ·simp only [Act.put, List.setIfInBounds_toArray, List.set_cons_zero, List.set_cons_succ, i64_w, i32_w]
             rfl
            refine pure_ (i := 15) (N := some 10) (v := ?_) (a' := ?_) #[true, true, true, true, true, true, true, true, true, true, true, true, true, true, true, true] rfl rfl (any_of HT_.out kk) (fun _ _ _ h => h) (Or.inl ⟨by rfl, ?_⟩) ?_ ?_
            rotate_left
            ·intro w'
             go_simp
             with_reducible rfl
            rotate_left
            ·simp only [Act.put, List.setIfInBounds_toArray, List.set_cons_zero, List.set_cons_succ, i64_w, i32_w]
             rfl
            refine done_ (done_of HT_.out kk) ?_
            (try simp only [errW_none, errW_some])
            try go_wp2
            have n0_ : Aside0 (Kd.R k42 42 ((w65.setCell ⟨gb193, 0, none⟩ (.int .i64 t187)).setCell ⟨gb193, 1, none⟩ (.slice Ao67 t188.length co67)) w.heap.size (fun k_ => some k_ ≠ (v185 : Value).ownBlock ∧ some k_ ≠ (.slice Ao67 t188.length co67 : Value).ownBlock ∧ k_ ≠ gb170) (.slice (some ad169) t162.length co24) t162) := ⟨by (with_reducible repeat (first | apply Kd.R_alloc | apply Kd.R_drewN | apply Kd.R_drew)); exact Kd.R_mono (Kd.R_far (p := ⟨gb193, 1, none⟩) (Kd.R_far (p := ⟨gb193, 0, none⟩) (Kd.R_types HO_168001.out BK193.out (by decide)) (fun _ hk => hk.2) (.int .i64 t187)) (fun _ hk => hk.2) (.slice Ao67 t188.length co67)) (fun _ hk => ⟨hk.1.1, ⟨hk.1.2.1, hk.1.2.2⟩⟩)⟩
            have n1_ : Aside0 (Kd.R k42 42 ((w65.setCell ⟨gb193, 0, none⟩ (.int .i64 t187)).setCell ⟨gb193, 1, none⟩ (.slice Ao67 t188.length co67)) w.heap.size (fun k_ => some k_ ≠ (.slice (some ad169) t162.length co24 : Value).ownBlock ∧ some k_ ≠ (.slice Ao67 t188.length co67 : Value).ownBlock ∧ k_ ≠ gb170) v185 t184) := ⟨by (with_reducible repeat (first | apply Kd.R_alloc | apply Kd.R_drewN | apply Kd.R_drew)); exact Kd.R_mono (Kd.R_far (p := ⟨gb193, 1, none⟩) (Kd.R_far (p := ⟨gb193, 0, none⟩) (Kd.R_types HO186.out BK193.out (by decide)) (fun _ hk => hk.2) (.int .i64 t187)) (fun _ hk => hk.2) (.slice Ao67 t188.length co67)) (fun _ hk => ⟨hk.1.2.1, ⟨hk.1.1, hk.1.2.2⟩⟩)⟩
            have n2_ : Aside0 (Kd.R k42 42 ((w65.setCell ⟨gb193, 0, none⟩ (.int .i64 t187)).setCell ⟨gb193, 1, none⟩ (.slice Ao67 t188.length co67)) w.heap.size (fun k_ => some k_ ≠ (.slice (some ad169) t162.length co24 : Value).ownBlock ∧ some k_ ≠ (v185 : Value).ownBlock ∧ k_ ≠ gb170) (.slice Ao67 t188.length co67) t188) := ⟨by (with_reducible repeat (first | apply Kd.R_alloc | apply Kd.R_drewN | apply Kd.R_drew)); exact Kd.R_mono (Kd.R_far (p := ⟨gb193, 1, none⟩) (Kd.R_far (p := ⟨gb193, 0, none⟩) (Kd.R_types HO190.out BK193.out (by decide)) (fun _ hk => hk.2) (.int .i64 t187)) (fun _ hk => hk.2) (.slice Ao67 t188.length co67)) (fun _ hk => ⟨hk.1.2.1, ⟨hk.1.1, hk.1.2.2⟩⟩)⟩
            have n3_ : Aside0 (((w65.setCell ⟨gb193, 0, none⟩ (.int .i64 t187)).setCell ⟨gb193, 1, none⟩ (.slice Ao67 t188.length co67)).heap[gb154]? = some (.cells #[.int .i64 a0_0, .slice A0_1 l0_1.length c0_1] 33 (0, 0))) := ⟨by (with_reducible repeat (first | refine blk_drewN ?_ _ | refine blk_drew ?_ | refine blk_alloc ?_ _)); refine blk_far ?_ NB154_193.out _; (with_reducible repeat (first | refine blk_drewN ?_ _ | refine blk_drew ?_ | refine blk_alloc ?_ _)); refine blk_far ?_ NB154_193.out _; (with_reducible repeat (first | refine blk_drewN ?_ _ | refine blk_drew ?_ | refine blk_alloc ?_ _)); exact BK154.out⟩
            have n4_ : Aside0 (((w65.setCell ⟨gb193, 0, none⟩ (.int .i64 t187)).setCell ⟨gb193, 1, none⟩ (.slice Ao67 t188.length co67)).heap[gb167]? = some (.cells #[.int .i64 t161, .slice (some ad169) t162.length co24] 37 (0, 0))) := ⟨by (with_reducible repeat (first | refine blk_drewN ?_ _ | refine blk_drew ?_ | refine blk_alloc ?_ _)); refine blk_far ?_ NB167_193.out _; (with_reducible repeat (first | refine blk_drewN ?_ _ | refine blk_drew ?_ | refine blk_alloc ?_ _)); refine blk_far ?_ NB167_193.out _; (with_reducible repeat (first | refine blk_drewN ?_ _ | refine blk_drew ?_ | refine blk_alloc ?_ _)); exact BK167.out⟩
            have n5_ : Aside0 (((w65.setCell ⟨gb193, 0, none⟩ (.int .i64 t187)).setCell ⟨gb193, 1, none⟩ (.slice Ao67 t188.length co67)).heap[gb170]? = some (.cells #[.bool true, .int .i64 ((rd_T42 t162 (ji40)).f1)] 42 (0, 0))) := ⟨by (with_reducible repeat (first | refine blk_drewN ?_ _ | refine blk_drew ?_ | refine blk_alloc ?_ _)); refine blk_far ?_ NB170_193.out _; (with_reducible repeat (first | refine blk_drewN ?_ _ | refine blk_drew ?_ | refine blk_alloc ?_ _)); refine blk_far ?_ NB170_193.out _; (with_reducible repeat (first | refine blk_drewN ?_ _ | refine blk_drew ?_ | refine blk_alloc ?_ _)); exact BK170.out⟩
            have n6_ : Aside0 (((w65.setCell ⟨gb193, 0, none⟩ (.int .i64 t187)).setCell ⟨gb193, 1, none⟩ (.slice Ao67 t188.length co67)).heap[gb193]? = some (.cells #[.int .i64 t187, .slice Ao67 t188.length co67] 37 (0, 0))) := ⟨by (with_reducible repeat (first | refine blk_drewN ?_ _ | refine blk_drew ?_ | refine blk_alloc ?_ _)); refine blk_put (cs := #[.int .i64 t187, .slice none 0 0]) ?_ 1 _ rfl; (with_reducible repeat (first | refine blk_drewN ?_ _ | refine blk_drew ?_ | refine blk_alloc ?_ _)); refine blk_put (cs := #[.int .i64 0, .slice none 0 0]) ?_ 0 _ rfl; (with_reducible repeat (first | refine blk_drewN ?_ _ | refine blk_drew ?_ | refine blk_alloc ?_ _)); exact BK193.out⟩
            have n7_ : Aside0 (Below w.heap.size w ((w65.setCell ⟨gb193, 0, none⟩ (.int .i64 t187)).setCell ⟨gb193, 1, none⟩ (.slice Ao67 t188.length co67))) := ⟨pw⟩
            (try clear HO_168001)
            (try clear HO186)
            (try clear HO190)
            (try clear BK154)
            (try clear BK167)
            (try clear BK170)
            (try clear BK193)
            (try clear HB)
            generalize ((w65.setCell ⟨gb193, 0, none⟩ (.int .i64 t187)).setCell ⟨gb193, 1, none⟩ (.slice Ao67 t188.length co67)) = w69 at n0_ n1_ n2_ n3_ n4_ n5_ n6_ n7_ ⊢
            revert n0_ n1_ n2_ n3_ n4_ n5_ n6_ n7_
            intro HO_168001 HO186 HO190 BK154 BK167 BK170 BK193 HB
            have n0_ := am (Kd.R_drew HO_168001.out)
            have n1_ := am (Kd.R_drew HO186.out)
            have n2_ := am (Kd.R_drew HO190.out)
            have n3_ := am (blk_drew BK154.out)
            have n4_ := am (blk_drew BK167.out)
            have n5_ := am (blk_drew BK170.out)
            have n6_ := am (blk_drew BK193.out)
            have n7_ := am (below_drew1 HB.out)
            clear HO_168001 HO186 HO190 BK154 BK167 BK170 BK193 HB
            revert n0_ n1_ n2_ n3_ n4_ n5_ n6_ n7_
            intro HO_168001 HO186 HO190 BK154 BK167 BK170 BK193 HB
            refine start_ (n := 17) (S := fun w' => w'.cell? ⟨gb154, 0, none⟩ = some (.int .i64 a0_0) ∧ w'.cell? ⟨gb154, 1, none⟩ = some (.slice A0_1 l0_1.length c0_1) ∧ w'.cell? ⟨gb170, 0, none⟩ = some (.bool true) ∧ w'.cell? ⟨gb170, 1, none⟩ = some (.int .i64 ((rd_T42 t162 (ji40)).f1))) (ds := []) #[false, false, false, false, false, false, false, false, false, false, false, false, false, false, false, false, false] kk rfl rfl ⟨bc BK154 0, bc BK154 1, bc BK170 0, bc BK170 1⟩ (fun hHeld => ?_); refine with_tabW L2_ZoneReached.tab14 L2_ZoneReached.bits14 (fun HT_ HW_ => ?_)
            generalize w69.drew = w70 at HO_168001 HO186 HO190 BK154 BK167 BK170 BK193 HB hHeld ⊢
            refine pure_ (i := 2) (N := some 134) (v := ?_) (a' := ?_) #[false, false, true, false, false, false, false, false, false, false, false, false, false, false, false, false, false] rfl rfl (any_of HT_.out kk) (fun _ _ _ h => h) (Or.inl ⟨by rfl, ?_⟩) ?_ ?_
            rotate_left
            ·intro w'
             go_simp
             with_reducible rfl
            rotate_left
            ·simp only [Act.put, List.setIfInBounds_toArray, List.set_cons_zero, List.set_cons_succ, i64_w, i32_w]
             rfl
            refine pure_ (i := 3) (N := some 135) (v := ?_) (a' := ?_) #[false, false, true, true, false, false, false, false, false, false, false, false, false, false, false, false, false] rfl rfl (any_of HT_.out kk) (fun _ _ _ h => h) (Or.inl ⟨by rfl, ?_⟩) ?_ ?_
            rotate_left
            ·intro w'
             go_simp
             with_reducible rfl
            rotate_left
            ·simp only [Act.put, List.setIfInBounds_toArray, List.set_cons_zero, List.set_cons_succ, i64_w, i32_w]
             rfl
            refine pure_ (i := 4) (N := some 136) (v := ?_) (a' := ?_) #[false, false, true, true, true, false, false, false, false, false, false, false, false, false, false, false, false] rfl rfl (any_of HT_.out kk) (fun _ _ _ h => h) (Or.inl ⟨by rfl, ?_⟩) ?_ ?_
            rotate_left
            ·intro w'
             go_simp
             with_reducible rfl
            rotate_left
            ·simp only [Act.put, List.setIfInBounds_toArray, List.set_cons_zero, List.set_cons_succ, i64_w, i32_w]
             rfl
            refine take_ (i := 0) (N := some 132) (v := ?_) (a' := ?_) #[true, false, true, true, true, false, false, false, false, false, false, false, false, false, false, false, false] rfl rfl (take_ofW HT_.out HW_.out kk) (fun _ _ _ h => h) (Or.inl ⟨by rfl, ?_⟩) hHeld ?_ ?_
            rotate_left
            ·rintro w' ⟨s0, s1, s2, s3⟩
             go_simp
             with_reducible rfl
            rotate_left
            ·simp only [Act.put, List.setIfInBounds_toArray, List.set_cons_zero, List.set_cons_succ, i64_w, i32_w]
             rfl
            refine take_ (i := 5) (N := some 137) (v := ?_) (a' := ?_) #[true, false, true, true, true, true, false, false, false, false, false, false, false, false, false, false, false] rfl rfl (take_ofW HT_.out HW_.out kk) (fun _ _ _ h => h) (Or.inl ⟨by rfl, ?_⟩) hHeld ?_ ?_
            rotate_left
            ·rintro w' ⟨s0, s1, s2, s3⟩
             go_simp
             with_reducible rfl
            rotate_left
            ·simp only [Act.put, List.setIfInBounds_toArray, List.set_cons_zero, List.set_cons_succ, i64_w, i32_w]
             rfl
            refine pure_ (i := 6) (N := some 138) (v := ?_) (a' := ?_) #[true, false, true, true, true, true, true, false, false, false, false, false, false, false, false, false, false] rfl rfl (any_of HT_.out kk) (fun _ _ _ h => h) (Or.inl ⟨by rfl, ?_⟩) ?_ ?_
            rotate_left
            ·intro w'
             go_simp
             with_reducible rfl
            rotate_left
            ·simp only [Act.put, List.setIfInBounds_toArray, List.set_cons_zero, List.set_cons_succ, i64_w, i32_w]
             rfl
            refine pure_ (i := 7) (N := some 139) (v := ?_) (a' := ?_) #[true, false, true, true, true, true, true, true, false, false, false, false, false, false, false, false, false] rfl rfl (any_of HT_.out kk) (fun _ _ _ h => h) (Or.inl ⟨by rfl, ?_⟩) ?_ ?_
            rotate_left
            ·intro w'
             go_simp
             with_reducible rfl
            rotate_left
            ·simp only [Act.put, List.setIfInBounds_toArray, List.set_cons_zero, List.set_cons_succ, i64_w, i32_w]
             rfl
            refine join_ (σ := Value × Value × Nat) 3 #[true, true, true, true, true, true, true, true, true, true, true, true, true, true, false, false, false] (fun s_ => [(133, .agg #[.int .i64 t194, s_.1]), (140, .tuple #[.agg #[.int .i64 t198, s_.2.1], .bool false, .nilIface]), (16, .pointer (some ⟨s_.2.2, 0, none⟩)), (131, .tuple #[.agg #[.int .i64 t198, s_.2.1], .bool false, .nilIface]), (141, .agg #[.int .i64 t198, s_.2.1]), (142, .bool false), (143, .nilIface)]) (fun s_ w' => (w'.cell? ⟨gb154, 0, none⟩ = some (.int .i64 a0_0) ∧ w'.cell? ⟨gb154, 1, none⟩ = some (.slice A0_1 l0_1.length c0_1) ∧ w'.cell? ⟨gb170, 0, none⟩ = some (.bool true) ∧ w'.cell? ⟨gb170, 1, none⟩ = some (.int .i64 ((rd_T42 t162 (ji40)).f1))) ∧ (Kd.R k42 42 w' w.heap.size (fun k_ => some k_ ≠ (.slice Ao67 t188.length co67 : Value).ownBlock ∧ some k_ ≠ (s_.1 : Value).ownBlock ∧ some k_ ≠ (s_.2.1 : Value).ownBlock ∧ some k_ ≠ (.slice (some ad169) t162.length co24 : Value).ownBlock ∧ k_ ≠ gb170) v185 t184) ∧ (Kd.R k42 42 w' w.heap.size (fun k_ => some k_ ≠ (v185 : Value).ownBlock ∧ some k_ ≠ (s_.1 : Value).ownBlock ∧ some k_ ≠ (s_.2.1 : Value).ownBlock ∧ some k_ ≠ (.slice (some ad169) t162.length co24 : Value).ownBlock ∧ k_ ≠ gb170) (.slice Ao67 t188.length co67) t188) ∧ (Kd.R k42 42 w' w.heap.size (fun k_ => some k_ ≠ (v185 : Value).ownBlock ∧ some k_ ≠ (.slice Ao67 t188.length co67 : Value).ownBlock ∧ some k_ ≠ (s_.2.1 : Value).ownBlock ∧ some k_ ≠ (.slice (some ad169) t162.length co24 : Value).ownBlock ∧ k_ ≠ gb170) s_.1 t195) ∧ (Kd.R k42 42 w' w.heap.size (fun k_ => some k_ ≠ (v185 : Value).ownBlock ∧ some k_ ≠ (.slice Ao67 t188.length co67 : Value).ownBlock ∧ some k_ ≠ (s_.1 : Value).ownBlock ∧ some k_ ≠ (.slice (some ad169) t162.length co24 : Value).ownBlock ∧ k_ ≠ gb170) s_.2.1 t199) ∧ (Kd.R k42 42 w' w.heap.size (fun k_ => some k_ ≠ (v185 : Value).ownBlock ∧ some k_ ≠ (.slice Ao67 t188.length co67 : Value).ownBlock ∧ some k_ ≠ (s_.1 : Value).ownBlock ∧ some k_ ≠ (s_.2.1 : Value).ownBlock ∧ k_ ≠ gb170) (.slice (some ad169) t162.length co24) t162) ∧ (w'.heap[gb154]? = some (.cells #[.int .i64 a0_0, .slice A0_1 l0_1.length c0_1] 33 (0, 0))) ∧ (w'.heap[gb167]? = some (.cells #[.int .i64 t161, .slice (some ad169) t162.length co24] 37 (0, 0))) ∧ (w'.heap[gb170]? = some (.cells #[.bool true, .int .i64 ((rd_T42 t162 (ji40)).f1)] 42 (0, 0))) ∧ (w'.heap[gb193]? = some (.cells #[.int .i64 t187, .slice Ao67 t188.length co67] 37 (0, 0))) ∧ (w'.heap[s_.2.2]? = some (.cells #[.int .i64 0, .slice none 0 0] 37 (0, 0))) ∧ (w.heap.size ≤ s_.2.2) ∧ (w.heap.size ≤ s_.2.2) ∧ (gb154 ≠ s_.2.2) ∧ (s_.2.2 ≠ gb154) ∧ (gb167 ≠ s_.2.2) ∧ (s_.2.2 ≠ gb167) ∧ (gb170 ≠ s_.2.2) ∧ (s_.2.2 ≠ gb170) ∧ (gb193 ≠ s_.2.2) ∧ (s_.2.2 ≠ gb193) ∧ (Below w.heap.size w w')) ?_ ?_
            rotate_left
            ·intro hCont
             refine two_ (i := 1) (j := 13) (Ni := some 133) (Nj := some 16) #[true, true, true, true, true, true, true, true, false, false, false, false, false, false, false, false, false] #[true, false, true, true, true, true, true, true, false, false, false, false, false, true, false, false, false] rfl rfl rfl rfl (two_of HT_.out kk) (by decide) (by decide) (fun K hK => ?_) (fun K hK => ?_)
             ·skip
              refine goes_ Tryd.func23 kk rfl #[.agg #[.int .i64 a0_0, .slice A0_1 l0_1.length c0_1]] (by rfl) rfl rfl (by (try simp only [List.map_toArray, List.map_cons, List.map_nil]); first | done | rfl | (simp only [List.length_drop, List.length_take]; rfl)) ?_
              with_reducible refine (L2_zoneOf.calls kj33 a0_0 _ _ l0_1 t194 t195 _ ?side1 ?side2 A47.out).mono ?_
              (case side1 => repeat (first | exact (Kd.C_below HR0_1.out HB.out) | (with_reducible refine Kd.C_alloc ?_ _) | (with_reducible refine Kd.C_drewN ?_ _) | (with_reducible refine Kd.C_drew ?_)))
              (case side2 => exact HC0_1.out)
              rintro e w71 ⟨v196, rfl, ho0, hb⟩
              refine ⟨_, rfl, ?_⟩
              have n0_ := am (Kd.R_elder' (by (with_reducible repeat (first | apply Kd.R_alloc | apply Kd.R_drewN | apply Kd.R_drew)); exact HO_168001.out) (Kd.R_base ho0) hb)
              have n1_ := am (Kd.R_elder' (by (with_reducible repeat (first | apply Kd.R_alloc | apply Kd.R_drewN | apply Kd.R_drew)); exact HO186.out) (Kd.R_base ho0) hb)
              have n2_ := am (Kd.R_elder' (by (with_reducible repeat (first | apply Kd.R_alloc | apply Kd.R_drewN | apply Kd.R_drew)); exact HO190.out) (Kd.R_base ho0) hb)
              have n3_ := am (Kd.R_lower (Kd.R_newB (Kd.R_new' (Kd.R_new' (Kd.R_new' ho0 (Kd.R_lt (by (with_reducible repeat (first | apply Kd.R_alloc | apply Kd.R_drewN | apply Kd.R_drew)); exact HO_168001.out))) (Kd.R_lt (by (with_reducible repeat (first | apply Kd.R_alloc | apply Kd.R_drewN | apply Kd.R_drew)); exact HO186.out))) (Kd.R_lt (by (with_reducible repeat (first | apply Kd.R_alloc | apply Kd.R_drewN | apply Kd.R_drew)); exact HO190.out))) (g := gb170) (o := .cells #[.bool true, .int .i64 ((rd_T42 t162 (ji40)).f1)] 42 (0, 0)) pk) (below_size pw))
              have n4_ := bb BK154 hb
              have n5_ := bb BK167 hb
              have n6_ := bb BK170 hb
              have n7_ := bb BK193 hb
              have n8_ := am (below_step pw hb)
              clear HO_168001 HO186 HO190 BK154 BK167 BK170 BK193 HB
              revert n0_ n1_ n2_ n3_ n4_ n5_ n6_ n7_ n8_
              intro HO_168001 HO186 HO190 HO197 BK154 BK167 BK170 BK193 HB
              (try clear hb)
              (try clear hb2)
              (try clear hk)
              (try clear hi)
              (try clear ho0)
              obtain ⟨Ao72, co72, eo72⟩ := Kd.R_slice HO197.out
              (first | subst eo72 | (injection eo72 with f1_ f2_ f3_; have f4_ := f1_.symm; have f5_ := f3_.symm; clear f1_ f2_ f3_; subst f4_; subst f5_))
              refine hK.out _ _ ⟨bc BK154 0, bc BK154 1, bc BK170 0, bc BK170 1⟩ (fun hHeld => ?_)
              clear hK K
              refine norm_ (a' := ?_) ?_ ?_
              rotate_left
              ·show Act.put _ (some 133) _ = _
               simp only [Act.put, List.setIfInBounds_toArray, List.set_cons_zero, List.set_cons_succ, i64_w, i32_w]
               rfl
              refine two_ (i := 8) (j := 13) (Ni := some 140) (Nj := some 16) #[true, true, true, true, true, true, true, true, true, false, false, false, false, false, false, false, false] #[true, true, true, true, true, true, true, true, false, false, false, false, false, true, false, false, false] rfl rfl rfl rfl (two_of HT_.out kk) (by decide) (by decide) (fun K hK => ?_) (fun K hK => ?_)
              ·skip
               refine goes_ Tryd.func24 kk rfl #[.agg #[.int .i64 t194, .slice Ao72 t195.length co72], .int .i64 a2, .int .i64 a1, .int .i64 (wrap64 ((wrap64 (-((rd_T42 t162 (ji40)).f1))) - 1))] (by rfl) rfl rfl (by (try simp only [List.map_toArray, List.map_cons, List.map_nil]); first | done | (simp only [hji40]; rfl) | rfl | (simp only [List.length_drop, List.length_take]; rfl)) ?_
               with_reducible refine (zone_Guard.calls t194 _ _ t195 a2 a1 (wrap64 ((wrap64 (-((rd_T42 t162 (ji40)).f1))) - 1)) t198 t199 false none _ ?side1 ?side2 A48.out (am (ErrAt.below hE2.out pw)).out (am (ErrAt.below hE3.out pw)).out).mono ?_
               (case side1 => repeat (first | exact (Kd.R_reads' HO197.out).2.2 | (with_reducible refine Kd.C_alloc ?_ _) | (with_reducible refine Kd.C_drewN ?_ _) | (with_reducible refine Kd.C_drew ?_)))
               (case side2 => exact (Kd.R_reads' HO197.out).2.1)
               rintro e w73 ⟨v200, rfl, ho0, hb⟩
               refine ⟨_, rfl, ?_⟩
               have n0_ := am (Kd.R_elder' (by (with_reducible repeat (first | apply Kd.R_alloc | apply Kd.R_drewN | apply Kd.R_drew)); exact HO_168001.out) (Kd.R_base ho0) hb)
               have n1_ := am (Kd.R_elder' (by (with_reducible repeat (first | apply Kd.R_alloc | apply Kd.R_drewN | apply Kd.R_drew)); exact HO186.out) (Kd.R_base ho0) hb)
               have n2_ := am (Kd.R_elder' (by (with_reducible repeat (first | apply Kd.R_alloc | apply Kd.R_drewN | apply Kd.R_drew)); exact HO190.out) (Kd.R_base ho0) hb)
               have n3_ := am (Kd.R_elder' (by (with_reducible repeat (first | apply Kd.R_alloc | apply Kd.R_drewN | apply Kd.R_drew)); exact HO197.out) (Kd.R_base ho0) hb)
               have n4_ := am (Kd.R_lower (Kd.R_newB (Kd.R_new' (Kd.R_new' (Kd.R_new' (Kd.R_new' ho0 (Kd.R_lt (by (with_reducible repeat (first | apply Kd.R_alloc | apply Kd.R_drewN | apply Kd.R_drew)); exact HO_168001.out))) (Kd.R_lt (by (with_reducible repeat (first | apply Kd.R_alloc | apply Kd.R_drewN | apply Kd.R_drew)); exact HO186.out))) (Kd.R_lt (by (with_reducible repeat (first | apply Kd.R_alloc | apply Kd.R_drewN | apply Kd.R_drew)); exact HO190.out))) (Kd.R_lt (by (with_reducible repeat (first | apply Kd.R_alloc | apply Kd.R_drewN | apply Kd.R_drew)); exact HO197.out))) (g := gb170) (o := .cells #[.bool true, .int .i64 ((rd_T42 t162 (ji40)).f1)] 42 (0, 0)) pk) (below_size pw))
               have n5_ := bb BK154 hb
               have n6_ := bb BK167 hb
               have n7_ := bb BK170 hb
               have n8_ := bb BK193 hb
               have n9_ := am (below_step pw hb)
               clear HO_168001 HO186 HO190 HO197 BK154 BK167 BK170 BK193 HB
               revert n0_ n1_ n2_ n3_ n4_ n5_ n6_ n7_ n8_ n9_
               intro HO_168001 HO186 HO190 HO197 HO201 BK154 BK167 BK170 BK193 HB
               (try clear hb)
               (try clear hb2)
               (try clear hk)
               (try clear hi)
               (try clear ho0)
               (try simp only [errW_none, errW_some])
               refine hK.out _ _ ⟨bc BK154 0, bc BK154 1, bc BK170 0, bc BK170 1⟩ (fun hHeld => ?_)
               clear hK K
               refine norm_ (a' := ?_) ?_ ?_
               rotate_left
               ·show Act.put _ (some 140) _ = _
                simp only [Act.put, List.setIfInBounds_toArray, List.set_cons_zero, List.set_cons_succ, i64_w, i32_w]
                rfl
               refine pure_ (i := 9) (N := some 131) (v := ?_) (a' := ?_) #[true, true, true, true, true, true, true, true, true, true, false, false, false, false, false, false, false] rfl rfl (any_of HT_.out kk) (fun _ _ _ h => h) (Or.inl ⟨by rfl, ?_⟩) ?_ ?_
               rotate_left
               ·intro w'
                go_simp
                with_reducible rfl
               rotate_left
               ·simp only [Act.put, List.setIfInBounds_toArray, List.set_cons_zero, List.set_cons_succ, i64_w, i32_w]
                rfl
               refine pure_ (i := 10) (N := some 141) (v := ?_) (a' := ?_) #[true, true, true, true, true, true, true, true, true, true, true, false, false, false, false, false, false] rfl rfl (any_of HT_.out kk) (fun _ _ _ h => h) (Or.inl ⟨by rfl, ?_⟩) ?_ ?_
               rotate_left
               ·intro w'
                go_simp
                with_reducible rfl
               rotate_left
               ·simp only [Act.put, List.setIfInBounds_toArray, List.set_cons_zero, List.set_cons_succ, i64_w, i32_w]
                rfl
               refine pure_ (i := 11) (N := some 142) (v := ?_) (a' := ?_) #[true, true, true, true, true, true, true, true, true, true, true, true, false, false, false, false, false] rfl rfl (any_of HT_.out kk) (fun _ _ _ h => h) (Or.inl ⟨by rfl, ?_⟩) ?_ ?_
               rotate_left
               ·intro w'
                go_simp
                with_reducible rfl
               rotate_left
               ·simp only [Act.put, List.setIfInBounds_toArray, List.set_cons_zero, List.set_cons_succ, i64_w, i32_w]
                rfl
               refine pure_ (i := 12) (N := some 143) (v := ?_) (a' := ?_) #[true, true, true, true, true, true, true, true, true, true, true, true, true, false, false, false, false] rfl rfl (any_of HT_.out kk) (fun _ _ _ h => h) (Or.inl ⟨by rfl, ?_⟩) ?_ ?_
               rotate_left
               ·intro w'
                go_simp
                with_reducible rfl
               rotate_left
               ·simp only [Act.put, List.setIfInBounds_toArray, List.set_cons_zero, List.set_cons_succ, i64_w, i32_w]
                rfl
               refine one_ (i := 13) (N := some 16) #[true, true, true, true, true, true, true, true, true, true, true, true, true, true, false, false, false] rfl rfl (one_of HT_.out kk) (by decide) (fun K hK => ?_)
               refine box_step ?hg (N := 16) ?hd (cs := #[.int .i64 0, .slice none 0 0]) (t := 37) ?hr ?_; (case hd => rfl); (case hg => rfl); (case hr => first | (go_simp; done) | (go_simp; rfl))
               intro gb204 hg w74 hbox hb
               have n0_ := am (Kd.R_below (by (with_reducible repeat (first | apply Kd.R_alloc | apply Kd.R_drewN | apply Kd.R_drew)); exact HO_168001.out) hb)
               have n1_ := am (Kd.R_below (by (with_reducible repeat (first | apply Kd.R_alloc | apply Kd.R_drewN | apply Kd.R_drew)); exact HO186.out) hb)
               have n2_ := am (Kd.R_below (by (with_reducible repeat (first | apply Kd.R_alloc | apply Kd.R_drewN | apply Kd.R_drew)); exact HO190.out) hb)
               have n3_ := am (Kd.R_below (by (with_reducible repeat (first | apply Kd.R_alloc | apply Kd.R_drewN | apply Kd.R_drew)); exact HO197.out) hb)
               have n4_ := am (Kd.R_below (by (with_reducible repeat (first | apply Kd.R_alloc | apply Kd.R_drewN | apply Kd.R_drew)); exact HO201.out) hb)
               have n5_ := bb BK154 hb
               have n6_ := bb BK167 hb
               have n7_ := bb BK170 hb
               have n8_ := bb BK193 hb
               have n9_ := am (below_step pw hb)
               have n10_ := am (hbox)
               have n11_ := am ((by rw [hg]; exact (below_size pw) : w.heap.size ≤ gb204))
               have n12_ := am ((by rw [hg]; exact (below_size pw) : w.heap.size ≤ gb204))
               have n13_ := am ((by rw [hg]; exact Nat.ne_of_lt (blk_lt pk) : gb154 ≠ gb204))
               have n14_ := am ((by rw [hg]; exact Nat.ne_of_gt (blk_lt pk) : gb204 ≠ gb154))
               have n15_ := am ((by rw [hg]; exact Nat.ne_of_lt (blk_lt pk) : gb167 ≠ gb204))
               have n16_ := am ((by rw [hg]; exact Nat.ne_of_gt (blk_lt pk) : gb204 ≠ gb167))
               have n17_ := am ((by rw [hg]; exact Nat.ne_of_lt (blk_lt pk) : gb170 ≠ gb204))
               have n18_ := am ((by rw [hg]; exact Nat.ne_of_gt (blk_lt pk) : gb204 ≠ gb170))
               have n19_ := am ((by rw [hg]; exact Nat.ne_of_lt (blk_lt pk) : gb193 ≠ gb204))
               have n20_ := am ((by rw [hg]; exact Nat.ne_of_gt (blk_lt pk) : gb204 ≠ gb193))
               clear HO_168001 HO186 HO190 HO197 HO201 BK154 BK167 BK170 BK193 HB
               revert n0_ n1_ n2_ n3_ n4_ n5_ n6_ n7_ n8_ n9_ n10_ n11_ n12_ n13_ n14_ n15_ n16_ n17_ n18_ n19_ n20_
               intro HO_168001 HO186 HO190 HO197 HO201 BK154 BK167 BK170 BK193 HB BK204 GW204 GE204 NB154_204 NB204_154 NB167_204 NB204_167 NB170_204 NB204_170 NB193_204 NB204_193
               clear hb hbox hg
               refine hK.out _ _ ⟨bc BK154 0, bc BK154 1, bc BK170 0, bc BK170 1⟩ (fun hHeld => ?_)
               clear hK K
               refine norm_ (a' := ?_) ?_ ?_
               rotate_left
               ·show Act.put _ (some 16) _ = _
                simp only [Act.put, List.setIfInBounds_toArray, List.set_cons_zero, List.set_cons_succ, i64_w, i32_w]
                rfl
               exact norm_ (by simp only [putAll, Act.put, List.setIfInBounds_toArray, List.set_cons_zero, List.set_cons_succ, errW_none, errW_some]) (hCont (.slice Ao72 t195.length co72, v200, gb204) _ ⟨hHeld, (by (with_reducible repeat (first | apply Kd.R_alloc | apply Kd.R_drewN | apply Kd.R_drew)); exact Kd.R_mono HO186.out (fun _ hk => ⟨hk.1.1.2.1, ⟨hk.1.2, ⟨hk.2, ⟨hk.1.1.1, hk.1.1.2.2⟩⟩⟩⟩)), (by (with_reducible repeat (first | apply Kd.R_alloc | apply Kd.R_drewN | apply Kd.R_drew)); exact Kd.R_mono HO190.out (fun _ hk => ⟨hk.1.1.2.1, ⟨hk.1.2, ⟨hk.2, ⟨hk.1.1.1, hk.1.1.2.2⟩⟩⟩⟩)), (by (with_reducible repeat (first | apply Kd.R_alloc | apply Kd.R_drewN | apply Kd.R_drew)); exact Kd.R_mono HO197.out (fun _ hk => ⟨hk.1.1.1.2, ⟨hk.1.1.2, ⟨hk.2, ⟨hk.1.1.1.1.2, hk.1.2⟩⟩⟩⟩)), (by (with_reducible repeat (first | apply Kd.R_alloc | apply Kd.R_drewN | apply Kd.R_drew)); exact Kd.R_mono HO201.out (fun _ hk => ⟨hk.1.1.1.2, ⟨hk.1.1.2, ⟨hk.1.2, ⟨hk.1.1.1.1.2, hk.2⟩⟩⟩⟩)), (by (with_reducible repeat (first | apply Kd.R_alloc | apply Kd.R_drewN | apply Kd.R_drew)); exact Kd.R_mono HO_168001.out (fun _ hk => ⟨hk.1.1.1, ⟨hk.1.1.2.1, ⟨hk.1.2, ⟨hk.2, hk.1.1.2.2⟩⟩⟩⟩)), pk, pk, pk, pk, pk, GW204.out, GE204.out, NB154_204.out, NB204_154.out, NB167_204.out, NB204_167.out, NB170_204.out, NB204_170.out, NB193_204.out, NB204_193.out, pw⟩)
              skip
              refine box_step ?hg (N := 16) ?hd (cs := #[.int .i64 0, .slice none 0 0]) (t := 37) ?hr ?_; (case hd => rfl); (case hg => rfl); (case hr => first | (go_simp; done) | (go_simp; rfl))
              intro gb204 hg w72 hbox hb
              have n0_ := am (Kd.R_below (by (with_reducible repeat (first | apply Kd.R_alloc | apply Kd.R_drewN | apply Kd.R_drew)); exact HO_168001.out) hb)
              have n1_ := am (Kd.R_below (by (with_reducible repeat (first | apply Kd.R_alloc | apply Kd.R_drewN | apply Kd.R_drew)); exact HO186.out) hb)
              have n2_ := am (Kd.R_below (by (with_reducible repeat (first | apply Kd.R_alloc | apply Kd.R_drewN | apply Kd.R_drew)); exact HO190.out) hb)
              have n3_ := am (Kd.R_below (by (with_reducible repeat (first | apply Kd.R_alloc | apply Kd.R_drewN | apply Kd.R_drew)); exact HO197.out) hb)
              have n4_ := bb BK154 hb
              have n5_ := bb BK167 hb
              have n6_ := bb BK170 hb
              have n7_ := bb BK193 hb
              have n8_ := am (below_step pw hb)
              have n9_ := am (hbox)
              have n10_ := am ((by rw [hg]; exact (below_size pw) : w.heap.size ≤ gb204))
              have n11_ := am ((by rw [hg]; exact (below_size pw) : w.heap.size ≤ gb204))
              have n12_ := am ((by rw [hg]; exact Nat.ne_of_lt (blk_lt pk) : gb154 ≠ gb204))
              have n13_ := am ((by rw [hg]; exact Nat.ne_of_gt (blk_lt pk) : gb204 ≠ gb154))
              have n14_ := am ((by rw [hg]; exact Nat.ne_of_lt (blk_lt pk) : gb167 ≠ gb204))
              have n15_ := am ((by rw [hg]; exact Nat.ne_of_gt (blk_lt pk) : gb204 ≠ gb167))
              have n16_ := am ((by rw [hg]; exact Nat.ne_of_lt (blk_lt pk) : gb170 ≠ gb204))
              have n17_ := am ((by rw [hg]; exact Nat.ne_of_gt (blk_lt pk) : gb204 ≠ gb170))
              have n18_ := am ((by rw [hg]; exact Nat.ne_of_lt (blk_lt pk) : gb193 ≠ gb204))
              have n19_ := am ((by rw [hg]; exact Nat.ne_of_gt (blk_lt pk) : gb204 ≠ gb193))
              clear HO_168001 HO186 HO190 HO197 BK154 BK167 BK170 BK193 HB
              revert n0_ n1_ n2_ n3_ n4_ n5_ n6_ n7_ n8_ n9_ n10_ n11_ n12_ n13_ n14_ n15_ n16_ n17_ n18_ n19_
              intro HO_168001 HO186 HO190 HO197 BK154 BK167 BK170 BK193 HB BK204 GW204 GE204 NB154_204 NB204_154 NB167_204 NB204_167 NB170_204 NB204_170 NB193_204 NB204_193
              clear hb hbox hg
              obtain ⟨Ao73, co73, eo73⟩ := Kd.R_slice HO197.out
              (first | subst eo73 | (injection eo73 with f1_ f2_ f3_; have f4_ := f1_.symm; have f5_ := f3_.symm; clear f1_ f2_ f3_; subst f4_; subst f5_))
              refine hK.out _ _ ⟨bc BK154 0, bc BK154 1, bc BK170 0, bc BK170 1⟩ (fun hHeld => ?_)
              clear hK K
              refine norm_ (a' := ?_) ?_ ?_
              rotate_left
              ·show Act.put _ (some 16) _ = _
               simp only [Act.put, List.setIfInBounds_toArray, List.set_cons_zero, List.set_cons_succ, i64_w, i32_w]
               rfl
              refine one_ (i := 8) (N := some 140) #[true, true, true, true, true, true, true, true, true, false, false, false, false, true, false, false, false] rfl rfl (one_of HT_.out kk) (by decide) (fun K hK => ?_)
              refine goes_ Tryd.func24 kk rfl #[.agg #[.int .i64 t194, .slice Ao73 t195.length co73], .int .i64 a2, .int .i64 a1, .int .i64 (wrap64 ((wrap64 (-((rd_T42 t162 (ji40)).f1))) - 1))] (by rfl) rfl rfl (by (try simp only [List.map_toArray, List.map_cons, List.map_nil]); first | done | (simp only [hji40]; rfl) | rfl | (simp only [List.length_drop, List.length_take]; rfl)) ?_
              with_reducible refine (zone_Guard.calls t194 _ _ t195 a2 a1 (wrap64 ((wrap64 (-((rd_T42 t162 (ji40)).f1))) - 1)) t198 t199 false none _ ?side1 ?side2 A48.out (am (ErrAt.below hE2.out pw)).out (am (ErrAt.below hE3.out pw)).out).mono ?_
              (case side1 => repeat (first | exact (Kd.R_reads' HO197.out).2.2 | (with_reducible refine Kd.C_alloc ?_ _) | (with_reducible refine Kd.C_drewN ?_ _) | (with_reducible refine Kd.C_drew ?_)))
              (case side2 => exact (Kd.R_reads' HO197.out).2.1)
              rintro e w74 ⟨v200, rfl, ho0, hb⟩
              refine ⟨_, rfl, ?_⟩
              have n0_ := am (Kd.R_elder' (by (with_reducible repeat (first | apply Kd.R_alloc | apply Kd.R_drewN | apply Kd.R_drew)); exact HO_168001.out) (Kd.R_base ho0) hb)
              have n1_ := am (Kd.R_elder' (by (with_reducible repeat (first | apply Kd.R_alloc | apply Kd.R_drewN | apply Kd.R_drew)); exact HO186.out) (Kd.R_base ho0) hb)
              have n2_ := am (Kd.R_elder' (by (with_reducible repeat (first | apply Kd.R_alloc | apply Kd.R_drewN | apply Kd.R_drew)); exact HO190.out) (Kd.R_base ho0) hb)
              have n3_ := am (Kd.R_elder' (by (with_reducible repeat (first | apply Kd.R_alloc | apply Kd.R_drewN | apply Kd.R_drew)); exact HO197.out) (Kd.R_base ho0) hb)
              have n4_ := am (Kd.R_lower (Kd.R_newB (Kd.R_new' (Kd.R_new' (Kd.R_new' (Kd.R_new' ho0 (Kd.R_lt (by (with_reducible repeat (first | apply Kd.R_alloc | apply Kd.R_drewN | apply Kd.R_drew)); exact HO_168001.out))) (Kd.R_lt (by (with_reducible repeat (first | apply Kd.R_alloc | apply Kd.R_drewN | apply Kd.R_drew)); exact HO186.out))) (Kd.R_lt (by (with_reducible repeat (first | apply Kd.R_alloc | apply Kd.R_drewN | apply Kd.R_drew)); exact HO190.out))) (Kd.R_lt (by (with_reducible repeat (first | apply Kd.R_alloc | apply Kd.R_drewN | apply Kd.R_drew)); exact HO197.out))) (g := gb170) (o := .cells #[.bool true, .int .i64 ((rd_T42 t162 (ji40)).f1)] 42 (0, 0)) pk) (below_size pw))
              have n5_ := bb BK154 hb
              have n6_ := bb BK167 hb
              have n7_ := bb BK170 hb
              have n8_ := bb BK193 hb
              have n9_ := bb BK204 hb
              have n10_ := am (below_step pw hb)
              clear HO_168001 HO186 HO190 HO197 BK154 BK167 BK170 BK193 BK204 HB
              revert n0_ n1_ n2_ n3_ n4_ n5_ n6_ n7_ n8_ n9_ n10_
              intro HO_168001 HO186 HO190 HO197 HO201 BK154 BK167 BK170 BK193 BK204 HB
              (try clear hb)
              (try clear hb2)
              (try clear hk)
              (try clear hi)
              (try clear ho0)
              (try simp only [errW_none, errW_some])
              refine hK.out _ _ ⟨bc BK154 0, bc BK154 1, bc BK170 0, bc BK170 1⟩ (fun hHeld => ?_)
              clear hK K
              refine norm_ (a' := ?_) ?_ ?_
              rotate_left
              ·show Act.put _ (some 140) _ = _
               simp only [Act.put, List.setIfInBounds_toArray, List.set_cons_zero, List.set_cons_succ, i64_w, i32_w]
               rfl
              refine pure_ (i := 9) (N := some 131) (v := ?_) (a' := ?_) #[true, true, true, true, true, true, true, true, true, true, false, false, false, true, false, false, false] rfl rfl (any_of HT_.out kk) (fun _ _ _ h => h) (Or.inl ⟨by rfl, ?_⟩) ?_ ?_
              rotate_left
              ·intro w'
               go_simp
               with_reducible rfl
              rotate_left
              ·simp only [Act.put, List.setIfInBounds_toArray, List.set_cons_zero, List.set_cons_succ, i64_w, i32_w]
               rfl
              refine pure_ (i := 10) (N := some 141) (v := ?_) (a' := ?_) #[true, true, true, true, true, true, true, true, true, true, true, false, false, true, false, false, false] rfl rfl (any_of HT_.out kk) (fun _ _ _ h => h) (Or.inl ⟨by rfl, ?_⟩) ?_ ?_
              rotate_left
              ·intro w'
               go_simp
               with_reducible rfl
              rotate_left
              ·simp only [Act.put, List.setIfInBounds_toArray, List.set_cons_zero, List.set_cons_succ, i64_w, i32_w]
               rfl
              refine pure_ (i := 11) (N := some 142) (v := ?_) (a' := ?_) #[true, true, true, true, true, true, true, true, true, true, true, true, false, true, false, false, false] rfl rfl (any_of HT_.out kk) (fun _ _ _ h => h) (Or.inl ⟨by rfl, ?_⟩) ?_ ?_
              rotate_left
              ·intro w'
               go_simp
               with_reducible rfl
              rotate_left
              ·simp only [Act.put, List.setIfInBounds_toArray, List.set_cons_zero, List.set_cons_succ, i64_w, i32_w]
               rfl
              refine pure_ (i := 12) (N := some 143) (v := ?_) (a' := ?_) #[true, true, true, true, true, true, true, true, true, true, true, true, true, true, false, false, false] rfl rfl (any_of HT_.out kk) (fun _ _ _ h => h) (Or.inl ⟨by rfl, ?_⟩) ?_ ?_
              rotate_left
              ·intro w'
               go_simp
               with_reducible rfl
              rotate_left
              ·simp only [Act.put, List.setIfInBounds_toArray, List.set_cons_zero, List.set_cons_succ, i64_w, i32_w]
               rfl
              exact norm_ (by simp only [putAll, Act.put, List.setIfInBounds_toArray, List.set_cons_zero, List.set_cons_succ, errW_none, errW_some]) (hCont (.slice Ao73 t195.length co73, v200, gb204) _ ⟨hHeld, (by (with_reducible repeat (first | apply Kd.R_alloc | apply Kd.R_drewN | apply Kd.R_drew)); exact Kd.R_mono HO186.out (fun _ hk => ⟨hk.1.1.2.1, ⟨hk.1.2, ⟨hk.2, ⟨hk.1.1.1, hk.1.1.2.2⟩⟩⟩⟩)), (by (with_reducible repeat (first | apply Kd.R_alloc | apply Kd.R_drewN | apply Kd.R_drew)); exact Kd.R_mono HO190.out (fun _ hk => ⟨hk.1.1.2.1, ⟨hk.1.2, ⟨hk.2, ⟨hk.1.1.1, hk.1.1.2.2⟩⟩⟩⟩)), (by (with_reducible repeat (first | apply Kd.R_alloc | apply Kd.R_drewN | apply Kd.R_drew)); exact Kd.R_mono HO197.out (fun _ hk => ⟨hk.1.1.1.2, ⟨hk.1.1.2, ⟨hk.2, ⟨hk.1.1.1.1.2, hk.1.2⟩⟩⟩⟩)), (by (with_reducible repeat (first | apply Kd.R_alloc | apply Kd.R_drewN | apply Kd.R_drew)); exact Kd.R_mono HO201.out (fun _ hk => ⟨hk.1.1.1.2, ⟨hk.1.1.2, ⟨hk.1.2, ⟨hk.1.1.1.1.2, hk.2⟩⟩⟩⟩)), (by (with_reducible repeat (first | apply Kd.R_alloc | apply Kd.R_drewN | apply Kd.R_drew)); exact Kd.R_mono HO_168001.out (fun _ hk => ⟨hk.1.1.1, ⟨hk.1.1.2.1, ⟨hk.1.2, ⟨hk.2, hk.1.1.2.2⟩⟩⟩⟩)), pk, pk, pk, pk, pk, GW204.out, GE204.out, NB154_204.out, NB204_154.out, NB167_204.out, NB204_167.out, NB170_204.out, NB204_170.out, NB193_204.out, NB204_193.out, pw⟩)
             skip
             refine box_step ?hg (N := 16) ?hd (cs := #[.int .i64 0, .slice none 0 0]) (t := 37) ?hr ?_; (case hd => rfl); (case hg => rfl); (case hr => first | (go_simp; done) | (go_simp; rfl))
             intro gb204 hg w71 hbox hb
             have n0_ := am (Kd.R_below (by (with_reducible repeat (first | apply Kd.R_alloc | apply Kd.R_drewN | apply Kd.R_drew)); exact HO_168001.out) hb)
             have n1_ := am (Kd.R_below (by (with_reducible repeat (first | apply Kd.R_alloc | apply Kd.R_drewN | apply Kd.R_drew)); exact HO186.out) hb)
             have n2_ := am (Kd.R_below (by (with_reducible repeat (first | apply Kd.R_alloc | apply Kd.R_drewN | apply Kd.R_drew)); exact HO190.out) hb)
             have n3_ := bb BK154 hb
             have n4_ := bb BK167 hb
             have n5_ := bb BK170 hb
             have n6_ := bb BK193 hb
             have n7_ := am (below_step pw hb)
             have n8_ := am (hbox)
             have n9_ := am ((by rw [hg]; exact (below_size pw) : w.heap.size ≤ gb204))
             have n10_ := am ((by rw [hg]; exact (below_size pw) : w.heap.size ≤ gb204))
             have n11_ := am ((by rw [hg]; exact Nat.ne_of_lt (blk_lt pk) : gb154 ≠ gb204))
             have n12_ := am ((by rw [hg]; exact Nat.ne_of_gt (blk_lt pk) : gb204 ≠ gb154))
             have n13_ := am ((by rw [hg]; exact Nat.ne_of_lt (blk_lt pk) : gb167 ≠ gb204))
             have n14_ := am ((by rw [hg]; exact Nat.ne_of_gt (blk_lt pk) : gb204 ≠ gb167))
             have n15_ := am ((by rw [hg]; exact Nat.ne_of_lt (blk_lt pk) : gb170 ≠ gb204))
             have n16_ := am ((by rw [hg]; exact Nat.ne_of_gt (blk_lt pk) : gb204 ≠ gb170))
             have n17_ := am ((by rw [hg]; exact Nat.ne_of_lt (blk_lt pk) : gb193 ≠ gb204))
             have n18_ := am ((by rw [hg]; exact Nat.ne_of_gt (blk_lt pk) : gb204 ≠ gb193))
             clear HO_168001 HO186 HO190 BK154 BK167 BK170 BK193 HB
             revert n0_ n1_ n2_ n3_ n4_ n5_ n6_ n7_ n8_ n9_ n10_ n11_ n12_ n13_ n14_ n15_ n16_ n17_ n18_
             intro HO_168001 HO186 HO190 BK154 BK167 BK170 BK193 HB BK204 GW204 GE204 NB154_204 NB204_154 NB167_204 NB204_167 NB170_204 NB204_170 NB193_204 NB204_193
             clear hb hbox hg
             refine hK.out _ _ ⟨bc BK154 0, bc BK154 1, bc BK170 0, bc BK170 1⟩ (fun hHeld => ?_)
             clear hK K
             refine norm_ (a' := ?_) ?_ ?_
             rotate_left
             ·show Act.put _ (some 16) _ = _
              simp only [Act.put, List.setIfInBounds_toArray, List.set_cons_zero, List.set_cons_succ, i64_w, i32_w]
              rfl
             refine one_ (i := 1) (N := some 133) #[true, true, true, true, true, true, true, true, false, false, false, false, false, true, false, false, false] rfl rfl (one_of HT_.out kk) (by decide) (fun K hK => ?_)
             refine goes_ Tryd.func23 kk rfl #[.agg #[.int .i64 a0_0, .slice A0_1 l0_1.length c0_1]] (by rfl) rfl rfl (by (try simp only [List.map_toArray, List.map_cons, List.map_nil]); first | done | rfl | (simp only [List.length_drop, List.length_take]; rfl)) ?_
             with_reducible refine (L2_zoneOf.calls kj33 a0_0 _ _ l0_1 t194 t195 _ ?side1 ?side2 A47.out).mono ?_
             (case side1 => repeat (first | exact (Kd.C_below HR0_1.out HB.out) | (with_reducible refine Kd.C_alloc ?_ _) | (with_reducible refine Kd.C_drewN ?_ _) | (with_reducible refine Kd.C_drew ?_)))
             (case side2 => exact HC0_1.out)
             rintro e w72 ⟨v196, rfl, ho0, hb⟩
             refine ⟨_, rfl, ?_⟩
             have n0_ := am (Kd.R_elder' (by (with_reducible repeat (first | apply Kd.R_alloc | apply Kd.R_drewN | apply Kd.R_drew)); exact HO_168001.out) (Kd.R_base ho0) hb)
             have n1_ := am (Kd.R_elder' (by (with_reducible repeat (first | apply Kd.R_alloc | apply Kd.R_drewN | apply Kd.R_drew)); exact HO186.out) (Kd.R_base ho0) hb)
             have n2_ := am (Kd.R_elder' (by (with_reducible repeat (first | apply Kd.R_alloc | apply Kd.R_drewN | apply Kd.R_drew)); exact HO190.out) (Kd.R_base ho0) hb)
             have n3_ := am (Kd.R_lower (Kd.R_newB (Kd.R_new' (Kd.R_new' (Kd.R_new' ho0 (Kd.R_lt (by (with_reducible repeat (first | apply Kd.R_alloc | apply Kd.R_drewN | apply Kd.R_drew)); exact HO_168001.out))) (Kd.R_lt (by (with_reducible repeat (first | apply Kd.R_alloc | apply Kd.R_drewN | apply Kd.R_drew)); exact HO186.out))) (Kd.R_lt (by (with_reducible repeat (first | apply Kd.R_alloc | apply Kd.R_drewN | apply Kd.R_drew)); exact HO190.out))) (g := gb170) (o := .cells #[.bool true, .int .i64 ((rd_T42 t162 (ji40)).f1)] 42 (0, 0)) pk) (below_size pw))
             have n4_ := bb BK154 hb
             have n5_ := bb BK167 hb
             have n6_ := bb BK170 hb
             have n7_ := bb BK193 hb
             have n8_ := bb BK204 hb
             have n9_ := am (below_step pw hb)
             clear HO_168001 HO186 HO190 BK154 BK167 BK170 BK193 BK204 HB
             revert n0_ n1_ n2_ n3_ n4_ n5_ n6_ n7_ n8_ n9_
             intro HO_168001 HO186 HO190 HO197 BK154 BK167 BK170 BK193 BK204 HB
             (try clear hb)
             (try clear hb2)
             (try clear hk)
             (try clear hi)
             (try clear ho0)
             obtain ⟨Ao73, co73, eo73⟩ := Kd.R_slice HO197.out
             (first | subst eo73 | (injection eo73 with f1_ f2_ f3_; have f4_ := f1_.symm; have f5_ := f3_.symm; clear f1_ f2_ f3_; subst f4_; subst f5_))
             refine hK.out _ _ ⟨bc BK154 0, bc BK154 1, bc BK170 0, bc BK170 1⟩ (fun hHeld => ?_)
             clear hK K
             refine norm_ (a' := ?_) ?_ ?_
             rotate_left
             ·show Act.put _ (some 133) _ = _
              simp only [Act.put, List.setIfInBounds_toArray, List.set_cons_zero, List.set_cons_succ, i64_w, i32_w]
              rfl
             refine one_ (i := 8) (N := some 140) #[true, true, true, true, true, true, true, true, true, false, false, false, false, true, false, false, false] rfl rfl (one_of HT_.out kk) (by decide) (fun K hK => ?_)
             refine goes_ Tryd.func24 kk rfl #[.agg #[.int .i64 t194, .slice Ao73 t195.length co73], .int .i64 a2, .int .i64 a1, .int .i64 (wrap64 ((wrap64 (-((rd_T42 t162 (ji40)).f1))) - 1))] (by rfl) rfl rfl (by (try simp only [List.map_toArray, List.map_cons, List.map_nil]); first | done | (simp only [hji40]; rfl) | rfl | (simp only [List.length_drop, List.length_take]; rfl)) ?_
             with_reducible refine (zone_Guard.calls t194 _ _ t195 a2 a1 (wrap64 ((wrap64 (-((rd_T42 t162 (ji40)).f1))) - 1)) t198 t199 false none _ ?side1 ?side2 A48.out (am (ErrAt.below hE2.out pw)).out (am (ErrAt.below hE3.out pw)).out).mono ?_
             (case side1 => repeat (first | exact (Kd.R_reads' HO197.out).2.2 | (with_reducible refine Kd.C_alloc ?_ _) | (with_reducible refine Kd.C_drewN ?_ _) | (with_reducible refine Kd.C_drew ?_)))
             (case side2 => exact (Kd.R_reads' HO197.out).2.1)
             rintro e w74 ⟨v200, rfl, ho0, hb⟩
             refine ⟨_, rfl, ?_⟩
             have n0_ := am (Kd.R_elder' (by (with_reducible repeat (first | apply Kd.R_alloc | apply Kd.R_drewN | apply Kd.R_drew)); exact HO_168001.out) (Kd.R_base ho0) hb)
             have n1_ := am (Kd.R_elder' (by (with_reducible repeat (first | apply Kd.R_alloc | apply Kd.R_drewN | apply Kd.R_drew)); exact HO186.out) (Kd.R_base ho0) hb)
             have n2_ := am (Kd.R_elder' (by (with_reducible repeat (first | apply Kd.R_alloc | apply Kd.R_drewN | apply Kd.R_drew)); exact HO190.out) (Kd.R_base ho0) hb)
             have n3_ := am (Kd.R_elder' (by (with_reducible repeat (first | apply Kd.R_alloc | apply Kd.R_drewN | apply Kd.R_drew)); exact HO197.out) (Kd.R_base ho0) hb)
             have n4_ := am (Kd.R_lower (Kd.R_newB (Kd.R_new' (Kd.R_new' (Kd.R_new' (Kd.R_new' ho0 (Kd.R_lt (by (with_reducible repeat (first | apply Kd.R_alloc | apply Kd.R_drewN | apply Kd.R_drew)); exact HO_168001.out))) (Kd.R_lt (by (with_reducible repeat (first | apply Kd.R_alloc | apply Kd.R_drewN | apply Kd.R_drew)); exact HO186.out))) (Kd.R_lt (by (with_reducible repeat (first | apply Kd.R_alloc | apply Kd.R_drewN | apply Kd.R_drew)); exact HO190.out))) (Kd.R_lt (by (with_reducible repeat (first | apply Kd.R_alloc | apply Kd.R_drewN | apply Kd.R_drew)); exact HO197.out))) (g := gb170) (o := .cells #[.bool true, .int .i64 ((rd_T42 t162 (ji40)).f1)] 42 (0, 0)) pk) (below_size pw))
             have n5_ := bb BK154 hb
             have n6_ := bb BK167 hb
             have n7_ := bb BK170 hb
             have n8_ := bb BK193 hb
             have n9_ := bb BK204 hb
             have n10_ := am (below_step pw hb)
             clear HO_168001 HO186 HO190 HO197 BK154 BK167 BK170 BK193 BK204 HB
             revert n0_ n1_ n2_ n3_ n4_ n5_ n6_ n7_ n8_ n9_ n10_
             intro HO_168001 HO186 HO190 HO197 HO201 BK154 BK167 BK170 BK193 BK204 HB
             (try clear hb)
             (try clear hb2)
             (try clear hk)
             (try clear hi)
             (try clear ho0)
             (try simp only [errW_none, errW_some])
             refine hK.out _ _ ⟨bc BK154 0, bc BK154 1, bc BK170 0, bc BK170 1⟩ (fun hHeld => ?_)
             clear hK K
             refine norm_ (a' := ?_) ?_ ?_
             rotate_left
             ·show Act.put _ (some 140) _ = _
              simp only [Act.put, List.setIfInBounds_toArray, List.set_cons_zero, List.set_cons_succ, i64_w, i32_w]
              rfl
             refine pure_ (i := 9) (N := some 131) (v := ?_) (a' := ?_) #[true, true, true, true, true, true, true, true, true, true, false, false, false, true, false, false, false] rfl rfl (any_of HT_.out kk) (fun _ _ _ h => h) (Or.inl ⟨by rfl, ?_⟩) ?_ ?_
             rotate_left
             ·intro w'
              go_simp
              with_reducible rfl
             rotate_left
             ·simp only [Act.put, List.setIfInBounds_toArray, List.set_cons_zero, List.set_cons_succ, i64_w, i32_w]
              rfl
             refine pure_ (i := 10) (N := some 141) (v := ?_) (a' := ?_) #[true, true, true, true, true, true, true, true, true, true, true, false, false, true, false, false, false] rfl rfl (any_of HT_.out kk) (fun _ _ _ h => h) (Or.inl ⟨by rfl, ?_⟩) ?_ ?_
             rotate_left
             ·intro w'
              go_simp
              with_reducible rfl
             rotate_left
             ·simp only [Act.put, List.setIfInBounds_toArray, List.set_cons_zero, List.set_cons_succ, i64_w, i32_w]
              rfl
             refine pure_ (i := 11) (N := some 142) (v := ?_) (a' := ?_) #[true, true, true, true, true, true, true, true, true, true, true, true, false, true, false, false, false] rfl rfl (any_of HT_.out kk) (fun _ _ _ h => h) (Or.inl ⟨by rfl, ?_⟩) ?_ ?_
             rotate_left
             ·intro w'
              go_simp
              with_reducible rfl
             rotate_left
             ·simp only [Act.put, List.setIfInBounds_toArray, List.set_cons_zero, List.set_cons_succ, i64_w, i32_w]
              rfl
             refine pure_ (i := 12) (N := some 143) (v := ?_) (a' := ?_) #[true, true, true, true, true, true, true, true, true, true, true, true, true, true, false, false, false] rfl rfl (any_of HT_.out kk) (fun _ _ _ h => h) (Or.inl ⟨by rfl, ?_⟩) ?_ ?_
             rotate_left
             ·intro w'
              go_simp
              with_reducible rfl
             rotate_left
             ·simp only [Act.put, List.setIfInBounds_toArray, List.set_cons_zero, List.set_cons_succ, i64_w, i32_w]
              rfl
             exact norm_ (by simp only [putAll, Act.put, List.setIfInBounds_toArray, List.set_cons_zero, List.set_cons_succ, errW_none, errW_some]) (hCont (.slice Ao73 t195.length co73, v200, gb204) _ ⟨hHeld, (by (with_reducible repeat (first | apply Kd.R_alloc | apply Kd.R_drewN | apply Kd.R_drew)); exact Kd.R_mono HO186.out (fun _ hk => ⟨hk.1.1.2.1, ⟨hk.1.2, ⟨hk.2, ⟨hk.1.1.1, hk.1.1.2.2⟩⟩⟩⟩)), (by (with_reducible repeat (first | apply Kd.R_alloc | apply Kd.R_drewN | apply Kd.R_drew)); exact Kd.R_mono HO190.out (fun _ hk => ⟨hk.1.1.2.1, ⟨hk.1.2, ⟨hk.2, ⟨hk.1.1.1, hk.1.1.2.2⟩⟩⟩⟩)), (by (with_reducible repeat (first | apply Kd.R_alloc | apply Kd.R_drewN | apply Kd.R_drew)); exact Kd.R_mono HO197.out (fun _ hk => ⟨hk.1.1.1.2, ⟨hk.1.1.2, ⟨hk.2, ⟨hk.1.1.1.1.2, hk.1.2⟩⟩⟩⟩)), (by (with_reducible repeat (first | apply Kd.R_alloc | apply Kd.R_drewN | apply Kd.R_drew)); exact Kd.R_mono HO201.out (fun _ hk => ⟨hk.1.1.1.2, ⟨hk.1.1.2, ⟨hk.1.2, ⟨hk.1.1.1.1.2, hk.2⟩⟩⟩⟩)), (by (with_reducible repeat (first | apply Kd.R_alloc | apply Kd.R_drewN | apply Kd.R_drew)); exact Kd.R_mono HO_168001.out (fun _ hk => ⟨hk.1.1.1, ⟨hk.1.1.2.1, ⟨hk.1.2, ⟨hk.2, hk.1.1.2.2⟩⟩⟩⟩)), pk, pk, pk, pk, pk, GW204.out, GE204.out, NB154_204.out, NB204_154.out, NB167_204.out, NB204_167.out, NB170_204.out, NB204_170.out, NB193_204.out, NB204_193.out, pw⟩)
            rintro ⟨v196, v200, gb204⟩ w75 ⟨hS_, h0_, h1_, h2_, h3_, h4_, h5_, h6_, h7_, h8_, h9_, h10_, h11_, h12_, h13_, h14_, h15_, h16_, h17_, h18_, h19_, h20_⟩
            have n0_ : Aside0 (Kd.R k42 42 w75 w.heap.size (fun k_ => some k_ ≠ (.slice Ao67 t188.length co67 : Value).ownBlock ∧ some k_ ≠ (v196 : Value).ownBlock ∧ some k_ ≠ (v200 : Value).ownBlock ∧ some k_ ≠ (.slice (some ad169) t162.length co24 : Value).ownBlock ∧ k_ ≠ gb170) v185 t184) := ⟨h0_⟩
            have n1_ : Aside0 (Kd.R k42 42 w75 w.heap.size (fun k_ => some k_ ≠ (v185 : Value).ownBlock ∧ some k_ ≠ (v196 : Value).ownBlock ∧ some k_ ≠ (v200 : Value).ownBlock ∧ some k_ ≠ (.slice (some ad169) t162.length co24 : Value).ownBlock ∧ k_ ≠ gb170) (.slice Ao67 t188.length co67) t188) := ⟨h1_⟩
            have n2_ : Aside0 (Kd.R k42 42 w75 w.heap.size (fun k_ => some k_ ≠ (v185 : Value).ownBlock ∧ some k_ ≠ (.slice Ao67 t188.length co67 : Value).ownBlock ∧ some k_ ≠ (v200 : Value).ownBlock ∧ some k_ ≠ (.slice (some ad169) t162.length co24 : Value).ownBlock ∧ k_ ≠ gb170) v196 t195) := ⟨h2_⟩
            have n3_ : Aside0 (Kd.R k42 42 w75 w.heap.size (fun k_ => some k_ ≠ (v185 : Value).ownBlock ∧ some k_ ≠ (.slice Ao67 t188.length co67 : Value).ownBlock ∧ some k_ ≠ (v196 : Value).ownBlock ∧ some k_ ≠ (.slice (some ad169) t162.length co24 : Value).ownBlock ∧ k_ ≠ gb170) v200 t199) := ⟨h3_⟩
            have n4_ : Aside0 (Kd.R k42 42 w75 w.heap.size (fun k_ => some k_ ≠ (v185 : Value).ownBlock ∧ some k_ ≠ (.slice Ao67 t188.length co67 : Value).ownBlock ∧ some k_ ≠ (v196 : Value).ownBlock ∧ some k_ ≠ (v200 : Value).ownBlock ∧ k_ ≠ gb170) (.slice (some ad169) t162.length co24) t162) := ⟨h4_⟩
            have n5_ : Aside0 (w75.heap[gb154]? = some (.cells #[.int .i64 a0_0, .slice A0_1 l0_1.length c0_1] 33 (0, 0))) := ⟨h5_⟩
            have n6_ : Aside0 (w75.heap[gb167]? = some (.cells #[.int .i64 t161, .slice (some ad169) t162.length co24] 37 (0, 0))) := ⟨h6_⟩
            have n7_ : Aside0 (w75.heap[gb170]? = some (.cells #[.bool true, .int .i64 ((rd_T42 t162 (ji40)).f1)] 42 (0, 0))) := ⟨h7_⟩
            have n8_ : Aside0 (w75.heap[gb193]? = some (.cells #[.int .i64 t187, .slice Ao67 t188.length co67] 37 (0, 0))) := ⟨h8_⟩
            have n9_ : Aside0 (w75.heap[gb204]? = some (.cells #[.int .i64 0, .slice none 0 0] 37 (0, 0))) := ⟨h9_⟩
            have n10_ : Aside0 (w.heap.size ≤ gb204) := ⟨h10_⟩
            have n11_ : Aside0 (w.heap.size ≤ gb204) := ⟨h11_⟩
            have n12_ : Aside0 (gb154 ≠ gb204) := ⟨h12_⟩
            have n13_ : Aside0 (gb204 ≠ gb154) := ⟨h13_⟩
            have n14_ : Aside0 (gb167 ≠ gb204) := ⟨h14_⟩
            have n15_ : Aside0 (gb204 ≠ gb167) := ⟨h15_⟩
            have n16_ : Aside0 (gb170 ≠ gb204) := ⟨h16_⟩
            have n17_ : Aside0 (gb204 ≠ gb170) := ⟨h17_⟩
            have n18_ : Aside0 (gb193 ≠ gb204) := ⟨h18_⟩
            have n19_ : Aside0 (gb204 ≠ gb193) := ⟨h19_⟩
            have n20_ : Aside0 (Below w.heap.size w w75) := ⟨h20_⟩
            clear HO_168001
            clear HO186
            clear HO190
            clear BK154
            clear BK167
            clear BK170
            clear BK193
            clear HB
            clear h0_ h1_ h2_ h3_ h4_ h5_ h6_ h7_ h8_ h9_ h10_ h11_ h12_ h13_ h14_ h15_ h16_ h17_ h18_ h19_ h20_
            revert n0_ n1_ n2_ n3_ n4_ n5_ n6_ n7_ n8_ n9_ n10_ n11_ n12_ n13_ n14_ n15_ n16_ n17_ n18_ n19_ n20_
            intro HO186 HO190 HO197 HO201 HO_168001 BK154 BK167 BK170 BK193 BK204 GW204 GE204 NB154_204 NB204_154 NB167_204 NB204_167 NB170_204 NB204_170 NB193_204 NB204_193 HB
            have hHeld : w75.cell? ⟨gb154, 0, none⟩ = some (.int .i64 a0_0) ∧ w75.cell? ⟨gb154, 1, none⟩ = some (.slice A0_1 l0_1.length c0_1) ∧ w75.cell? ⟨gb170, 0, none⟩ = some (.bool true) ∧ w75.cell? ⟨gb170, 1, none⟩ = some (.int .i64 ((rd_T42 t162 (ji40)).f1)) := hS_
            obtain ⟨Ao77, co77, eo77⟩ := Kd.R_slice HO201.out
            (first | subst eo77 | (injection eo77 with f1_ f2_ f3_; have f4_ := f1_.symm; have f5_ := f3_.symm; clear f1_ f2_ f3_; subst f4_; subst f5_))
            refine norm_ (a' := ?_) ?_ ?_
            rotate_left
            ·simp only [putAll, Act.put, List.setIfInBounds_toArray, List.set_cons_zero, List.set_cons_succ]
             rfl
            refine one_ (i := 14) (N := none) #[true, true, true, true, true, true, true, true, true, true, true, true, true, true, true, false, false] rfl rfl (one_of HT_.out kk) (by decide) (fun K hK => ?_)
            have hs76 : w75.cell? ⟨gb204, 0, none⟩ = some (.int .i64 0) := bc BK204 0
            have hfs76 := blk_frozen BK204.out 0
            have hns76_0 := NB154_204.out
            have hns76_1 := NB167_204.out
            have hns76_2 := NB170_204.out
            have hns76_3 := NB193_204.out
            have hms76_0 := NB204_154.out
            have hms76_1 := NB204_167.out
            have hms76_2 := NB204_170.out
            have hms76_3 := NB204_193.out
            have hs78 : w75.cell? ⟨gb204, 1, none⟩ = some (.slice none 0 0) := bc BK204 1
            have hfs78 := blk_frozen BK204.out 1
            have hns78_0 := NB154_204.out
            have hns78_1 := NB167_204.out
            have hns78_2 := NB170_204.out
            have hns78_3 := NB193_204.out
            have hms78_0 := NB204_154.out
            have hms78_1 := NB204_167.out
            have hms78_2 := NB204_170.out
            have hms78_3 := NB204_193.out
            refine skip_ (w1 := ?_) (by rfl) rfl ?_ ?_
            rotate_left
            ·go_simp
             rfl
            refine hK.out _ _ ⟨((cell_far (p := ⟨gb204, _, none⟩) NB154_204.out _).trans (((cell_far (p := ⟨gb204, _, none⟩) NB154_204.out _).trans (hHeld.1)))), ((cell_far (p := ⟨gb204, _, none⟩) NB154_204.out _).trans (((cell_far (p := ⟨gb204, _, none⟩) NB154_204.out _).trans (hHeld.2.1)))), ((cell_far (p := ⟨gb204, _, none⟩) NB170_204.out _).trans (((cell_far (p := ⟨gb204, _, none⟩) NB170_204.out _).trans (hHeld.2.2.1)))), ((cell_far (p := ⟨gb204, _, none⟩) NB170_204.out _).trans (((cell_far (p := ⟨gb204, _, none⟩) NB170_204.out _).trans (hHeld.2.2.2))))⟩ (fun hHeld => ?_)
            clear hK K
            refine pure_ (i := 15) (N := some 17) (v := ?_) (a' := ?_) #[true, true, true, true, true, true, true, true, true, true, true, true, true, true, true, true, false] rfl rfl (any_of HT_.out kk) (fun _ _ _ h => h) (Or.inl ⟨by rfl, ?_⟩) ?_ ?_
            rotate_left
            ·intro w'
             go_simp
             with_reducible rfl
            rotate_left
            ·simp only [Act.put, List.setIfInBounds_toArray, List.set_cons_zero, List.set_cons_succ, i64_w, i32_w]
             rfl
            refine pure_ (i := 16) (N := some 18) (v := ?_) (a' := ?_) #[true, true, true, true, true, true, true, true, true, true, true, true, true, true, true, true, true] rfl rfl (any_of HT_.out kk) (fun _ _ _ h => h) (Or.inl ⟨by rfl, ?_⟩) ?_ ?_
            rotate_left
            ·intro w'
             go_simp
             with_reducible rfl
            rotate_left
            ·simp only [Act.put, List.setIfInBounds_toArray, List.set_cons_zero, List.set_cons_succ, i64_w, i32_w]
             rfl
            refine done_ (done_of HT_.out kk) ?_
            have hnb79 := NB193_154.out
            have hnc79 := NB154_193.out
            have hnb80 := NB193_167.out
            have hnc80 := NB167_193.out
            have hnb81 := NB193_170.out
            have hnc81 := NB170_193.out
            have hnb82 := NB193_204.out
            have hnc82 := NB204_193.out
            have hcz83_0 : w75.cell? ⟨gb193, 0, none⟩ = some (.int .i64 t187) := bc BK193 0
            have hcz83_1 : w75.cell? ⟨gb193, 1, none⟩ = some (.slice Ao67 t188.length co67) := bc BK193 1
            have hfz83_0 := blk_frozen BK193.out 0
            have hfz83_1 := blk_frozen BK193.out 1
            have hnb84 := NB154_204.out
            have hnc84 := NB204_154.out
            have hcz85_0 : w75.cell? ⟨gb154, 0, none⟩ = some (.int .i64 a0_0) := bc BK154 0
            have hcz85_1 : w75.cell? ⟨gb154, 1, none⟩ = some (.slice A0_1 l0_1.length c0_1) := bc BK154 1
            have hfz85_0 := blk_frozen BK154.out 0
            have hfz85_1 := blk_frozen BK154.out 1
            have hnb86 := NB204_167.out
            have hnc86 := NB167_204.out
            have hnb87 := NB204_170.out
            have hnc87 := NB170_204.out
            have hcz88_0 : w75.cell? ⟨gb204, 0, none⟩ = some (.int .i64 0) := bc BK204 0
            have hcz88_1 : w75.cell? ⟨gb204, 1, none⟩ = some (.slice none 0 0) := bc BK204 1
            have hfz88_0 := blk_frozen BK204.out 0
            have hfz88_1 := blk_frozen BK204.out 1
            try go_wp2
            go_ret
            exact ⟨by first | rfl | (simp [errW_none, errW_some] <;> rfl) | (simp only [← hji40]; first | rfl | (simp [errW_none, errW_some] <;> rfl)) | (simp [*, errW_none, errW_some] <;> rfl), pw⟩
          have H1 : (none) = some r := by rw [if_neg (show ¬ (some q206).isNone = true by simp)] at H; exact H
          clear H
          have H := H1
          clear H1
          try simp only [errW_none, errW_some]
          exact absurd H (by simp)
         rw [if_neg c50] at H
         exact absurd H (by simp)
        replace c49 := Bool.eq_false_iff.mpr c49
        subst c49
        have H1 : (none) = some r := by rw [if_neg (show ¬ (false = true) by decide)] at H; exact H
        clear H
        have H := H1
        clear H1
        exact absurd H (by simp)
       have H1 : (none) = some r := by rw [if_neg (show ¬ (some q205).isNone = true by simp)] at H; exact H
       clear H
       have H := H1
       clear H1
       try simp only [errW_none, errW_some]
       exact absurd H (by simp)
      replace c44 := Bool.eq_false_iff.mpr c44
      subst c44
      have H1 : ((L2_zoneOf.f kj33 a0_0 l0_1).bind fun bt171 => ((zone_Guard.f bt171.1 bt171.2 a2 a1 (-33554432)).bind fun bt175 => (if bt175.2.2.2.isNone = true then (if bt175.2.2.1 = true then (some (bt175.1 == a0_0)) else (none)) else (none)))) = some r := by rw [if_neg (show ¬ (false = true) by decide)] at H; exact H
      clear H
      have H := H1
      clear H1
      replace H := Option.bind_eq_some_iff.mp H
      obtain ⟨⟨t171, t172⟩, A890, H⟩ := H
      replace H : ((zone_Guard.f t171 t172 a2 a1 (-33554432)).bind fun bt175 => (if bt175.2.2.2.isNone = true then (if bt175.2.2.1 = true then (some (bt175.1 == a0_0)) else (none)) else (none))) = some r := H
      have A89 := am A890
      clear A890
      replace H := Option.bind_eq_some_iff.mp H
      obtain ⟨⟨t175, t176, t179, t180⟩, A900, H⟩ := H
      replace H : (if t180.isNone = true then (if t179 = true then (some (t175 == a0_0)) else (none)) else (none)) = some r := H
      have A90 := am A900
      clear A900
      rcases t180 with _ | q182
      ·have H1 : (if t179 = true then (some (t175 == a0_0)) else (none)) = some r := by rw [if_pos (show (none : Option Int).isNone = true by rfl)] at H; exact H
       clear H
       have H := H1
       clear H1
       try simp only [errW_none, errW_some]
       by_cases c91 : t179 = true
       ·subst c91
        have H1 : (some (t175 == a0_0)) = some r := by rw [if_pos rfl] at H; exact H
        clear H
        have H := H1
        clear H1
        as_aux_lemma =>
         obtain rfl := Option.some.inj H
         have hnb92 := NB167_154.out
         have hnc92 := NB154_167.out
         have hcz93_0 : wc.cell? ⟨gb167, 0, none⟩ = some (.int .i64 t161) := bc BK167 0
         have hcz93_1 : wc.cell? ⟨gb167, 1, none⟩ = some (.slice Ao24 t162.length co24) := bc BK167 1
         have hfz93_0 := blk_frozen BK167.out 0
         have hfz93_1 := blk_frozen BK167.out 1
         have hcz94_0 : wc.cell? ⟨gb154, 0, none⟩ = some (.int .i64 a0_0) := bc BK154 0
         have hcz94_1 : wc.cell? ⟨gb154, 1, none⟩ = some (.slice A0_1 l0_1.length c0_1) := bc BK154 1
         have hfz94_0 := blk_frozen BK154.out 0
         have hfz94_1 := blk_frozen BK154.out 1
         have p169 : 0 ≤ ((ji40) : Int) := of_decide_eq_true (by first | (with_reducible assumption) | assumption)
         have q169 : (ji40) < (t162.length : Int) := of_decide_eq_true (by first | (with_reducible assumption) | assumption)
         obtain ⟨ad169, e169, hx169_0, hx169_1⟩ := at_T42 (Kd.R_reads' HO_168001.out).2.2 (ji40) p169 q169
         (try rw [← Nbq43.out] at hx169_0)
         cases e169
         replace p169 := eq_true p169
         replace q169 := eq_true q169
         go_wp2_with (first | ((with_reducible refine gate_dst (N := 11) rfl ?_); (try (refine gate_guard (by rfl) ?_; dsimp only)); refine box_event ?hg (N := 11) ?hd (cs := #[.bool false, .int .i64 0]) (t := 42) ?hr ?_; (case hd => rfl); (case hg => rfl); (case hr => first | (go_simp; done) | (go_simp; rfl)); intro gb170 hg w95 hbox hb; have n0_ := am (Kd.R_below (Kd.R_elderB (by (with_reducible repeat (first | apply Kd.R_alloc | apply Kd.R_drewN | apply Kd.R_drew)); exact HO_168001.out) gb170 (Nat.le_of_eq hg.symm)) hb); have n1_ := bb BK154 hb; have n2_ := bb BK167 hb; have n3_ := am (below_step pw hb); have n4_ := am (hbox); have n5_ := am ((by rw [hg]; exact (below_size pw) : w.heap.size ≤ gb170)); have n6_ := am ((by rw [hg]; exact (below_size pw) : w.heap.size ≤ gb170)); have n7_ := am ((by rw [hg]; exact Nat.ne_of_lt (blk_lt pk) : gb154 ≠ gb170)); have n8_ := am ((by rw [hg]; exact Nat.ne_of_gt (blk_lt pk) : gb170 ≠ gb154)); have n9_ := am ((by rw [hg]; exact Nat.ne_of_lt (blk_lt pk) : gb167 ≠ gb170)); have n10_ := am ((by rw [hg]; exact Nat.ne_of_gt (blk_lt pk) : gb170 ≠ gb167)); clear HO_168001; clear BK154; clear BK167; clear HB; have HO_168001 := n0_; have BK154 := n1_; have BK167 := n2_; have HB := n3_; have BK170 := n4_; have GW170 := n5_; have GE170 := n6_; have NB154_170 := n7_; have NB170_154 := n8_; have NB167_170 := n9_; have NB170_167 := n10_; clear n0_ n1_ n2_ n3_ n4_ n5_ n6_ n7_ n8_ n9_ n10_; clear hb hbox hg; have hnb96 := NB170_154.out; have hnc96 := NB154_170.out; have hnb97 := NB170_167.out; have hnc97 := NB167_170.out; have hcz98_0 : w95.cell? ⟨gb170, 0, none⟩ = some (.bool false) := bc BK170 0; have hcz98_1 : w95.cell? ⟨gb170, 1, none⟩ = some (.int .i64 0) := bc BK170 1; have hfz98_0 := blk_frozen BK170.out 0; have hfz98_1 := blk_frozen BK170.out 1; have hcz99_0 : w95.cell? ⟨gb154, 0, none⟩ = some (.int .i64 a0_0) := bc BK154 0; have hcz99_1 : w95.cell? ⟨gb154, 1, none⟩ = some (.slice A0_1 l0_1.length c0_1) := bc BK154 1; have hfz99_0 := blk_frozen BK154.out 0; have hfz99_1 := blk_frozen BK154.out 1) | ((with_reducible refine gate_callee (f := 23) rfl ?_); refine goesL_ (some 100) rfl rfl Tryd.func23 kk rfl #[.agg #[.int .i64 a0_0, .slice A0_1 l0_1.length c0_1]] rfl (by (try simp only [List.map_toArray, List.map_cons, List.map_nil]); first | done | rfl | (simp only [List.length_drop, List.length_take]; rfl)) ?_; (with_reducible refine (L2_zoneOf.calls kj33 a0_0 _ _ l0_1 t171 t172 _ ?side1 ?side2 A89.out).mono ?_); (case side1 => exact Kd.C_below HR0_1.out pw); (case side2 => exact HC0_1.out); rintro e w100 ⟨v173, rfl, ho0, hb⟩; refine ⟨_, rfl, ?_⟩; have n0_ := am (Kd.R_elder' (by (with_reducible repeat (first | apply Kd.R_alloc | apply Kd.R_drewN | apply Kd.R_drew)); exact (Kd.R_mono (Kd.R_far (p := ⟨gb170, 1, none⟩) (Kd.R_far (p := ⟨gb170, 0, none⟩) (Kd.R_mono HO_168001.out (fun k_ hk => (⟨hk, hk.2⟩ : _ ∧ k_ ≠ gb170))) (fun _ hk => hk.2) (.bool false)) (fun _ hk => hk.2) (.int .i64 ((rd_T42 t162 (ji40)).f1))) (fun _ h_ => h_.1))) (Kd.R_base ho0) hb); have n1_ := am (Kd.R_lower (Kd.R_newB (Kd.R_new' ho0 (Kd.R_lt (by (with_reducible repeat (first | apply Kd.R_alloc | apply Kd.R_drewN | apply Kd.R_drew)); exact (Kd.R_mono (Kd.R_far (p := ⟨gb170, 1, none⟩) (Kd.R_far (p := ⟨gb170, 0, none⟩) (Kd.R_mono HO_168001.out (fun k_ hk => (⟨hk, hk.2⟩ : _ ∧ k_ ≠ gb170))) (fun _ hk => hk.2) (.bool false)) (fun _ hk => hk.2) (.int .i64 ((rd_T42 t162 (ji40)).f1))) (fun _ h_ => h_.1))))) (g := gb170) (o := .cells #[.bool false, .int .i64 ((rd_T42 t162 (ji40)).f1)] 42 (0, 0)) (by (with_reducible repeat (first | refine blk_drewN ?_ _ | refine blk_drew ?_ | refine blk_alloc ?_ _)); refine blk_put (cs := #[.bool false, .int .i64 0]) ?_ 1 _ rfl; (with_reducible repeat (first | refine blk_drewN ?_ _ | refine blk_drew ?_ | refine blk_alloc ?_ _)); refine blk_put (cs := #[.bool false, .int .i64 0]) ?_ 0 _ rfl; (with_reducible repeat (first | refine blk_drewN ?_ _ | refine blk_drew ?_ | refine blk_alloc ?_ _)); exact BK170.out)) (below_size pw)); have n2_ := am (blk_below (g := gb154) (o := .cells #[.int .i64 a0_0, .slice A0_1 l0_1.length c0_1] 33 (0, 0)) (by (with_reducible repeat (first | refine blk_drewN ?_ _ | refine blk_drew ?_ | refine blk_alloc ?_ _)); refine blk_far ?_ NB154_170.out _; (with_reducible repeat (first | refine blk_drewN ?_ _ | refine blk_drew ?_ | refine blk_alloc ?_ _)); refine blk_far ?_ NB154_170.out _; (with_reducible repeat (first | refine blk_drewN ?_ _ | refine blk_drew ?_ | refine blk_alloc ?_ _)); exact BK154.out) hb); have n3_ := am (blk_below (g := gb167) (o := .cells #[.int .i64 t161, .slice (some ad169) t162.length co24] 37 (0, 0)) (by (with_reducible repeat (first | refine blk_drewN ?_ _ | refine blk_drew ?_ | refine blk_alloc ?_ _)); refine blk_far ?_ NB167_170.out _; (with_reducible repeat (first | refine blk_drewN ?_ _ | refine blk_drew ?_ | refine blk_alloc ?_ _)); refine blk_far ?_ NB167_170.out _; (with_reducible repeat (first | refine blk_drewN ?_ _ | refine blk_drew ?_ | refine blk_alloc ?_ _)); exact BK167.out) hb); have n4_ := am (blk_below (g := gb170) (o := .cells #[.bool false, .int .i64 ((rd_T42 t162 (ji40)).f1)] 42 (0, 0)) (by (with_reducible repeat (first | refine blk_drewN ?_ _ | refine blk_drew ?_ | refine blk_alloc ?_ _)); refine blk_put (cs := #[.bool false, .int .i64 0]) ?_ 1 _ rfl; (with_reducible repeat (first | refine blk_drewN ?_ _ | refine blk_drew ?_ | refine blk_alloc ?_ _)); refine blk_put (cs := #[.bool false, .int .i64 0]) ?_ 0 _ rfl; (with_reducible repeat (first | refine blk_drewN ?_ _ | refine blk_drew ?_ | refine blk_alloc ?_ _)); exact BK170.out) hb); have n5_ := am (below_step pw hb); clear HO_168001; clear BK154; clear BK167; clear BK170; clear HB; have HO_168001 := n0_; have HO174 := n1_; have BK154 := n2_; have BK167 := n3_; have BK170 := n4_; have HB := n5_; clear n0_ n1_ n2_ n3_ n4_ n5_; (try clear hb); (try clear hb2); (try clear hk); (try clear hi); (try clear ho0); obtain ⟨Ao101, co101, eo101⟩ := Kd.R_slice HO174.out; subst eo101) | ((with_reducible refine gate_callee (f := 24) rfl ?_); refine goesL_ (some 103) rfl rfl Tryd.func24 kk rfl #[.agg #[.int .i64 t171, .slice Ao101 t172.length co101], .int .i64 a2, .int .i64 a1, .int .i64 (-33554432)] rfl (by (try simp only [List.map_toArray, List.map_cons, List.map_nil]); first | done | rfl | (simp only [List.length_drop, List.length_take]; rfl)) ?_; (with_reducible refine (zone_Guard.calls t171 _ _ t172 a2 a1 (-33554432) t175 t176 true none _ ?side1 ?side2 A90.out (am (ErrAt.below hE2.out pw)).out (am (ErrAt.below hE3.out pw)).out).mono ?_); (case side1 => repeat (first | exact (Kd.R_reads' HO174.out).2.2 | (with_reducible refine Kd.C_alloc ?_ _) | (with_reducible refine Kd.C_drewN ?_ _) | (with_reducible refine Kd.C_drew ?_))); (case side2 => exact (Kd.R_reads' HO174.out).2.1); rintro e w102 ⟨v177, rfl, ho0, hb⟩; refine ⟨_, rfl, ?_⟩; have n0_ := am (Kd.R_elder' (by (with_reducible repeat (first | apply Kd.R_alloc | apply Kd.R_drewN | apply Kd.R_drew)); exact HO_168001.out) (Kd.R_base ho0) hb); have n1_ := am (Kd.R_elder' (by (with_reducible repeat (first | apply Kd.R_alloc | apply Kd.R_drewN | apply Kd.R_drew)); exact HO174.out) (Kd.R_base ho0) hb); have n2_ := am (Kd.R_lower (Kd.R_newB (Kd.R_new' (Kd.R_new' ho0 (Kd.R_lt (by (with_reducible repeat (first | apply Kd.R_alloc | apply Kd.R_drewN | apply Kd.R_drew)); exact HO_168001.out))) (Kd.R_lt (by (with_reducible repeat (first | apply Kd.R_alloc | apply Kd.R_drewN | apply Kd.R_drew)); exact HO174.out))) (g := gb170) (o := .cells #[.bool false, .int .i64 ((rd_T42 t162 (ji40)).f1)] 42 (0, 0)) pk) (below_size pw)); have n3_ := bb BK154 hb; have n4_ := bb BK167 hb; have n5_ := bb BK170 hb; have n6_ := am (below_step pw hb); clear HO_168001; clear HO174; clear BK154; clear BK167; clear BK170; clear HB; have HO_168001 := n0_; have HO174 := n1_; have HO178 := n2_; have BK154 := n3_; have BK167 := n4_; have BK170 := n5_; have HB := n6_; clear n0_ n1_ n2_ n3_ n4_ n5_ n6_; (try clear hb); (try clear hb2); (try clear hk); (try clear hi); (try clear ho0); (try simp only [errW_none, errW_some])) | ((with_reducible refine gate_dst (N := 12) rfl ?_); (try (refine gate_guard (by rfl) ?_; dsimp only)); refine box_event ?hg (N := 12) ?hd (cs := #[.int .i64 0, .slice none 0 0]) (t := 37) ?hr ?_; (case hd => rfl); (case hg => rfl); (case hr => first | (go_simp; done) | (go_simp; rfl)); intro gb181 hg w103 hbox hb; have n0_ := am (Kd.R_below (by (with_reducible repeat (first | apply Kd.R_alloc | apply Kd.R_drewN | apply Kd.R_drew)); exact HO_168001.out) hb); have n1_ := am (Kd.R_below (by (with_reducible repeat (first | apply Kd.R_alloc | apply Kd.R_drewN | apply Kd.R_drew)); exact HO174.out) hb); have n2_ := am (Kd.R_below (by (with_reducible repeat (first | apply Kd.R_alloc | apply Kd.R_drewN | apply Kd.R_drew)); exact HO178.out) hb); have n3_ := bb BK154 hb; have n4_ := bb BK167 hb; have n5_ := bb BK170 hb; have n6_ := am (below_step pw hb); have n7_ := am (hbox); have n8_ := am ((by rw [hg]; exact (below_size pw) : w.heap.size ≤ gb181)); have n9_ := am ((by rw [hg]; exact (below_size pw) : w.heap.size ≤ gb181)); have n10_ := am ((by rw [hg]; exact Nat.ne_of_lt (blk_lt pk) : gb154 ≠ gb181)); have n11_ := am ((by rw [hg]; exact Nat.ne_of_gt (blk_lt pk) : gb181 ≠ gb154)); have n12_ := am ((by rw [hg]; exact Nat.ne_of_lt (blk_lt pk) : gb167 ≠ gb181)); have n13_ := am ((by rw [hg]; exact Nat.ne_of_gt (blk_lt pk) : gb181 ≠ gb167)); have n14_ := am ((by rw [hg]; exact Nat.ne_of_lt (blk_lt pk) : gb170 ≠ gb181)); have n15_ := am ((by rw [hg]; exact Nat.ne_of_gt (blk_lt pk) : gb181 ≠ gb170)); clear HO_168001; clear HO174; clear HO178; clear BK154; clear BK167; clear BK170; clear HB; have HO_168001 := n0_; have HO174 := n1_; have HO178 := n2_; have BK154 := n3_; have BK167 := n4_; have BK170 := n5_; have HB := n6_; have BK181 := n7_; have GW181 := n8_; have GE181 := n9_; have NB154_181 := n10_; have NB181_154 := n11_; have NB167_181 := n12_; have NB181_167 := n13_; have NB170_181 := n14_; have NB181_170 := n15_; clear n0_ n1_ n2_ n3_ n4_ n5_ n6_ n7_ n8_ n9_ n10_ n11_ n12_ n13_ n14_ n15_; clear hb hbox hg; have hnb104 := NB181_154.out; have hnc104 := NB154_181.out; have hnb105 := NB181_167.out; have hnc105 := NB167_181.out; have hnb106 := NB181_170.out; have hnc106 := NB170_181.out; have hcz107_0 : w103.cell? ⟨gb181, 0, none⟩ = some (.int .i64 0) := bc BK181 0; have hcz107_1 : w103.cell? ⟨gb181, 1, none⟩ = some (.slice none 0 0) := bc BK181 1; have hfz107_0 := blk_frozen BK181.out 0; have hfz107_1 := blk_frozen BK181.out 1; obtain ⟨Ao108, co108, eo108⟩ := Kd.R_slice HO178.out; subst eo108; have hcz109_0 : w103.cell? ⟨gb154, 0, none⟩ = some (.int .i64 a0_0) := bc BK154 0; have hcz109_1 : w103.cell? ⟨gb154, 1, none⟩ = some (.slice A0_1 l0_1.length c0_1) := bc BK154 1; have hfz109_0 := blk_frozen BK154.out 0; have hfz109_1 := blk_frozen BK154.out 1))
         go_ret
         exact ⟨by first | rfl | (simp [errW_none, errW_some] <;> rfl) | (simp only [← hji40]; first | rfl | (simp [errW_none, errW_some] <;> rfl)) | (simp [*, errW_none, errW_some] <;> rfl), pw⟩
       replace c91 := Bool.eq_false_iff.mpr c91
       subst c91
       have H1 : (none) = some r := by rw [if_neg (show ¬ (false = true) by decide)] at H; exact H
       clear H
       have H := H1
       clear H1
       exact absurd H (by simp)
      have H1 : (none) = some r := by rw [if_neg (show ¬ (some q182).isNone = true by simp)] at H; exact H
      clear H
      have H := H1
      clear H1
      try simp only [errW_none, errW_some]
      exact absurd H (by simp)
     rw [if_neg c42] at H
     exact absurd H (by simp)
    rw [if_neg c41] at H
    exact absurd H (by simp)

end Go.Proofs.YtjpboodkmhikpaaDoor.Z
