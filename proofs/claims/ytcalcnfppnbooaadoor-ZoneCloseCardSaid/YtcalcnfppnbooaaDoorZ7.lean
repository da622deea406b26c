-- Written by wip/xprint.py (the session's program over the kit's print).
import Derived.Test.YtcalcnfppnbooaaDoorEb
import Derived.Test.YtcalcnfppnbooaaDoorZ0
import Derived.Test.YtcalcnfppnbooaaDoorZ6
namespace Go.Proofs.YtcalcnfppnbooaaDoor.Z
open Go.RowKit Go.Proofs.YtcalcnfppnbooaaDoorW.PrintWords Go.Proofs.YtcalcnfppnbooaaDoorW.PrintLast Go.Proofs.YtcalcnfppnbooaaDoorW.PrintMore Go.Proofs.Rcg
attribute [local go_sem] max2_int min2_int max_two min_two max_three min_three max_four min_four   -- for this text's walks alone
set_option linter.unusedVariables false
set_option linter.unusedSimpArgs false

/-! ### R2_ClosedZone: function 26 -/
mutual
def R2_ClosedZone.l0 : Nat → Int → Int → Int → List (S67) → Option (Int × (List (S67)) × Bool)
 | 0, _, _, _, _ => none
 | k + 1, x4, x6, x190000, x190001 => if x6 < x4 then ((R2_lower.f x190001 (wrap64 ((wrap64 (x6 * x4)) + x6)) 0).bind fun bt193 => (R2_ClosedZone.l0 k x4 (wrap64 (x6 + 1)) x190000 bt193.2)) else (R2_ClosedZone.l1 k x4 0 x190000 x190001)
def R2_ClosedZone.l1 : Nat → Int → Int → Int → List (S67) → Option (Int × (List (S67)) × Bool)
 | 0, _, _, _, _ => none
 | k + 1, x4, x7, x190000, x190001 => if x7 ≤ x4 then (R2_ClosedZone.l2 k x4 x7 0 x190000 x190001) else (R2_ClosedZone.l5 k x4 0 x190000 x190001)
def R2_ClosedZone.l2 : Nat → Int → Int → Int → Int → List (S67) → Option (Int × (List (S67)) × Bool)
 | 0, _, _, _, _, _ => none
 | k + 1, x4, x7, x8, x190000, x190001 => if x8 < x4 then (R2_ClosedZone.l3 k x4 x7 x8 0 x190000 x190001) else (R2_ClosedZone.l1 k x4 (wrap64 (x7 + 1)) x190000 x190001)
def R2_ClosedZone.l3 : Nat → Int → Int → Int → Int → Int → List (S67) → Option (Int × (List (S67)) × Bool)
 | 0, _, _, _, _, _, _ => none
 | k + 1, x4, x7, x8, x9, x190000, x190001 => if x9 < x4 then (R2_ClosedZone.l4 k x4 x7 x8 x9 0 x190000 x190001) else (R2_ClosedZone.l2 k x4 x7 (wrap64 (x8 + 1)) x190000 x190001)
def R2_ClosedZone.l4 : Nat → Int → Int → Int → Int → Int → Int → List (S67) → Option (Int × (List (S67)) × Bool)
 | 0, _, _, _, _, _, _, _ => none
 | k + 1, x4, x7, x8, x9, x10, x190000, x190001 => if x10 < x4 then (if 0 ≤ (wrap64 ((wrap64 (x8 * x4)) + x10)) then (if (wrap64 ((wrap64 (x8 * x4)) + x10)) < (x190001.length : Int) then (if 0 ≤ (wrap64 ((wrap64 (x10 * x4)) + x9)) then (if (wrap64 ((wrap64 (x10 * x4)) + x9)) < (x190001.length : Int) then (if (rd_T67 x190001 (wrap64 ((wrap64 (x8 * x4)) + x10))).f0 = true then (if (rd_T67 x190001 (wrap64 ((wrap64 (x10 * x4)) + x9))).f0 = true then ((R2_lower.f x190001 (wrap64 ((wrap64 (x8 * x4)) + x9)) (wrap64 (((rd_T67 x190001 (wrap64 ((wrap64 (x8 * x4)) + x10))).f1) + ((rd_T67 x190001 (wrap64 ((wrap64 (x10 * x4)) + x9))).f1)))).bind fun bt199 => (R2_ClosedZone.l4 k x4 x7 x8 x9 (wrap64 (x10 + 1)) x190000 bt199.2)) else (R2_ClosedZone.l4 k x4 x7 x8 x9 (wrap64 (x10 + 1)) x190000 x190001)) else (R2_ClosedZone.l4 k x4 x7 x8 x9 (wrap64 (x10 + 1)) x190000 x190001)) else (none)) else (none)) else (none)) else (none)) else (R2_ClosedZone.l3 k x4 x7 x8 (wrap64 (x9 + 1)) x190000 x190001)
def R2_ClosedZone.l5 : Nat → Int → Int → Int → List (S67) → Option (Int × (List (S67)) × Bool)
 | 0, _, _, _, _ => none
 | k + 1, x4, x13, x190000, x190001 => if x13 < x4 then (if 0 ≤ (wrap64 ((wrap64 (x13 * x4)) + x13)) then (if (wrap64 ((wrap64 (x13 * x4)) + x13)) < (x190001.length : Int) then (if ((rd_T67 x190001 (wrap64 ((wrap64 (x13 * x4)) + x13))).f1) < 0 then (some (0, ([] : List (S67)), false)) else (R2_ClosedZone.l5 k x4 (wrap64 (x13 + 1)) x190000 x190001)) else (none)) else (none)) else ((R2_clip.f k x190001).bind fun t202 => (some (x190000, t202, true)))
end
def R2_ClosedZone.f (k : Nat) (a0_0 : Int) (l0_1 : List (S67)) : Option (Int × (List (S67)) × Bool) := if ([] : List (S67)).length + l0_1.length < 8796093022208 then (R2_ClosedZone.l0 k (wrap64 (a0_0 + 1)) 0 a0_0 (([] : List (S67)) ++ l0_1)) else (none)
theorem R2_ClosedZone.mono_l : ∀ k, (∀ y0 y1 y2 y3, LeO (R2_ClosedZone.l0 k y0 y1 y2 y3) (R2_ClosedZone.l0 (k + 1) y0 y1 y2 y3)) ∧ (∀ y0 y1 y2 y3, LeO (R2_ClosedZone.l1 k y0 y1 y2 y3) (R2_ClosedZone.l1 (k + 1) y0 y1 y2 y3)) ∧ (∀ y0 y1 y2 y3 y4, LeO (R2_ClosedZone.l2 k y0 y1 y2 y3 y4) (R2_ClosedZone.l2 (k + 1) y0 y1 y2 y3 y4)) ∧ (∀ y0 y1 y2 y3 y4 y5, LeO (R2_ClosedZone.l3 k y0 y1 y2 y3 y4 y5) (R2_ClosedZone.l3 (k + 1) y0 y1 y2 y3 y4 y5)) ∧ (∀ y0 y1 y2 y3 y4 y5 y6, LeO (R2_ClosedZone.l4 k y0 y1 y2 y3 y4 y5 y6) (R2_ClosedZone.l4 (k + 1) y0 y1 y2 y3 y4 y5 y6)) ∧ (∀ y0 y1 y2 y3, LeO (R2_ClosedZone.l5 k y0 y1 y2 y3) (R2_ClosedZone.l5 (k + 1) y0 y1 y2 y3))
 | 0 => ⟨fun _ _ _ _ r h => by simp [R2_ClosedZone.l0] at h, fun _ _ _ _ r h => by simp [R2_ClosedZone.l1] at h, fun _ _ _ _ _ r h => by simp [R2_ClosedZone.l2] at h, fun _ _ _ _ _ _ r h => by simp [R2_ClosedZone.l3] at h, fun _ _ _ _ _ _ _ r h => by simp [R2_ClosedZone.l4] at h, fun _ _ _ _ r h => by simp [R2_ClosedZone.l5] at h⟩
 | k + 1 => by
  obtain ⟨ih0, ih1, ih2, ih3, ih4, ih5⟩ := R2_ClosedZone.mono_l k
  refine ⟨?_, ?_, ?_, ?_, ?_, ?_⟩
  ·intro y0 y1 y2 y3
   unfold R2_ClosedZone.l0
   repeat' first
   | (with_reducible exact ih0 _ _ _ _)
   | (with_reducible exact ih1 _ _ _ _)
   | (with_reducible exact ih2 _ _ _ _ _)
   | (with_reducible exact ih3 _ _ _ _ _ _)
   | (with_reducible exact ih4 _ _ _ _ _ _ _)
   | (with_reducible exact ih5 _ _ _ _)
   | (with_reducible exact R2_clip.mono _ _)
   | (with_reducible exact LeO.refl _)
   | (with_reducible exact LeO.none _)
   | (with_reducible refine LeO.ite ?_ ?_)
   | (with_reducible refine LeO.bind ?_ (fun _ => ?_))
   | exact ih0 _ _ _ _
   | exact ih1 _ _ _ _
   | exact ih2 _ _ _ _ _
   | exact ih3 _ _ _ _ _ _
   | exact ih4 _ _ _ _ _ _ _
   | exact ih5 _ _ _ _
   | exact R2_clip.mono _ _
   | exact LeO.none _
   | refine LeO.ite ?_ ?_
   | refine LeO.bind ?_ (fun _ => ?_)
  ·intro y0 y1 y2 y3
   unfold R2_ClosedZone.l1
   repeat' first
   | (with_reducible exact ih0 _ _ _ _)
   | (with_reducible exact ih1 _ _ _ _)
   | (with_reducible exact ih2 _ _ _ _ _)
   | (with_reducible exact ih3 _ _ _ _ _ _)
   | (with_reducible exact ih4 _ _ _ _ _ _ _)
   | (with_reducible exact ih5 _ _ _ _)
   | (with_reducible exact R2_clip.mono _ _)
   | (with_reducible exact LeO.refl _)
   | (with_reducible exact LeO.none _)
   | (with_reducible refine LeO.ite ?_ ?_)
   | (with_reducible refine LeO.bind ?_ (fun _ => ?_))
   | exact ih0 _ _ _ _
   | exact ih1 _ _ _ _
   | exact ih2 _ _ _ _ _
   | exact ih3 _ _ _ _ _ _
   | exact ih4 _ _ _ _ _ _ _
   | exact ih5 _ _ _ _
   | exact R2_clip.mono _ _
   | exact LeO.none _
   | refine LeO.ite ?_ ?_
   | refine LeO.bind ?_ (fun _ => ?_)
  ·intro y0 y1 y2 y3 y4
   unfold R2_ClosedZone.l2
   repeat' first
   | (with_reducible exact ih0 _ _ _ _)
   | (with_reducible exact ih1 _ _ _ _)
   | (with_reducible exact ih2 _ _ _ _ _)
   | (with_reducible exact ih3 _ _ _ _ _ _)
   | (with_reducible exact ih4 _ _ _ _ _ _ _)
   | (with_reducible exact ih5 _ _ _ _)
   | (with_reducible exact R2_clip.mono _ _)
   | (with_reducible exact LeO.refl _)
   | (with_reducible exact LeO.none _)
   | (with_reducible refine LeO.ite ?_ ?_)
   | (with_reducible refine LeO.bind ?_ (fun _ => ?_))
   | exact ih0 _ _ _ _
   | exact ih1 _ _ _ _
   | exact ih2 _ _ _ _ _
   | exact ih3 _ _ _ _ _ _
   | exact ih4 _ _ _ _ _ _ _
   | exact ih5 _ _ _ _
   | exact R2_clip.mono _ _
   | exact LeO.none _
   | refine LeO.ite ?_ ?_
   | refine LeO.bind ?_ (fun _ => ?_)
  ·intro y0 y1 y2 y3 y4 y5
   unfold R2_ClosedZone.l3
   repeat' first
   | (with_reducible exact ih0 _ _ _ _)
   | (with_reducible exact ih1 _ _ _ _)
   | (with_reducible exact ih2 _ _ _ _ _)
   | (with_reducible exact ih3 _ _ _ _ _ _)
   | (with_reducible exact ih4 _ _ _ _ _ _ _)
   | (with_reducible exact ih5 _ _ _ _)
   | (with_reducible exact R2_clip.mono _ _)
   | (with_reducible exact LeO.refl _)
   | (with_reducible exact LeO.none _)
   | (with_reducible refine LeO.ite ?_ ?_)
   | (with_reducible refine LeO.bind ?_ (fun _ => ?_))
   | exact ih0 _ _ _ _
   | exact ih1 _ _ _ _
   | exact ih2 _ _ _ _ _
   | exact ih3 _ _ _ _ _ _
   | exact ih4 _ _ _ _ _ _ _
   | exact ih5 _ _ _ _
   | exact R2_clip.mono _ _
   | exact LeO.none _
   | refine LeO.ite ?_ ?_
   | refine LeO.bind ?_ (fun _ => ?_)
  ·intro y0 y1 y2 y3 y4 y5 y6
   unfold R2_ClosedZone.l4
   repeat' first
   | (with_reducible exact ih0 _ _ _ _)
   | (with_reducible exact ih1 _ _ _ _)
   | (with_reducible exact ih2 _ _ _ _ _)
   | (with_reducible exact ih3 _ _ _ _ _ _)
   | (with_reducible exact ih4 _ _ _ _ _ _ _)
   | (with_reducible exact ih5 _ _ _ _)
   | (with_reducible exact R2_clip.mono _ _)
   | (with_reducible exact LeO.refl _)
   | (with_reducible exact LeO.none _)
   | (with_reducible refine LeO.ite ?_ ?_)
   | (with_reducible refine LeO.bind ?_ (fun _ => ?_))
   | exact ih0 _ _ _ _
   | exact ih1 _ _ _ _
   | exact ih2 _ _ _ _ _
   | exact ih3 _ _ _ _ _ _
   | exact ih4 _ _ _ _ _ _ _
   | exact ih5 _ _ _ _
   | exact R2_clip.mono _ _
   | exact LeO.none _
   | refine LeO.ite ?_ ?_
   | refine LeO.bind ?_ (fun _ => ?_)
  intro y0 y1 y2 y3
  unfold R2_ClosedZone.l5
  repeat' first
  | (with_reducible exact ih0 _ _ _ _)
  | (with_reducible exact ih1 _ _ _ _)
  | (with_reducible exact ih2 _ _ _ _ _)
  | (with_reducible exact ih3 _ _ _ _ _ _)
  | (with_reducible exact ih4 _ _ _ _ _ _ _)
  | (with_reducible exact ih5 _ _ _ _)
  | (with_reducible exact R2_clip.mono _ _)
  | (with_reducible exact LeO.refl _)
  | (with_reducible exact LeO.none _)
  | (with_reducible refine LeO.ite ?_ ?_)
  | (with_reducible refine LeO.bind ?_ (fun _ => ?_))
  | exact ih0 _ _ _ _
  | exact ih1 _ _ _ _
  | exact ih2 _ _ _ _ _
  | exact ih3 _ _ _ _ _ _
  | exact ih4 _ _ _ _ _ _ _
  | exact ih5 _ _ _ _
  | exact R2_clip.mono _ _
  | exact LeO.none _
  | refine LeO.ite ?_ ?_
  | refine LeO.bind ?_ (fun _ => ?_)
theorem R2_ClosedZone.mono : ∀ a0 a1 k, LeO (R2_ClosedZone.f k a0 a1) (R2_ClosedZone.f (k + 1) a0 a1) := by
 intro a0 a1 k
 obtain ⟨ih0, ih1, ih2, ih3, ih4, ih5⟩ := R2_ClosedZone.mono_l k
 unfold R2_ClosedZone.f
 repeat' first
   | (with_reducible exact ih0 _ _ _ _)
   | (with_reducible exact ih1 _ _ _ _)
   | (with_reducible exact ih2 _ _ _ _ _)
   | (with_reducible exact ih3 _ _ _ _ _ _)
   | (with_reducible exact ih4 _ _ _ _ _ _ _)
   | (with_reducible exact ih5 _ _ _ _)
   | (with_reducible exact R2_clip.mono _ _)
   | (with_reducible exact LeO.refl _)
   | (with_reducible exact LeO.none _)
   | (with_reducible refine LeO.ite ?_ ?_)
   | (with_reducible refine LeO.bind ?_ (fun _ => ?_))
   | exact ih0 _ _ _ _
   | exact ih1 _ _ _ _
   | exact ih2 _ _ _ _ _
   | exact ih3 _ _ _ _ _ _
   | exact ih4 _ _ _ _ _ _ _
   | exact ih5 _ _ _ _
   | exact R2_clip.mono _ _
   | exact LeO.none _
   | refine LeO.ite ?_ ?_
   | refine LeO.bind ?_ (fun _ => ?_)
set_option maxHeartbeats 8000000 in
set_option maxRecDepth 100000 in
theorem R2_ClosedZone.calls [EA] (k : Nat) (a0_0 : Int) (A0_1 : Option Addr) (c0_1 : Nat) (l0_1 : List (S67)) (r1 : Int) (r2 : List (S67)) (r3 : Bool) (w : World) (hr0_1 : Kd.C k67 w A0_1 l0_1.length l0_1) (hc0_1 : l0_1.length ≤ c0_1) (h : R2_ClosedZone.f k a0_0 l0_1 = some (r1, r2, r3)) :
  Calls Tryd.prog 26 #[.agg #[.int .i64 a0_0, .slice A0_1 l0_1.length c0_1]] w fun e w' => ∃ v1_ : Value, e = .returned (.tuple #[.agg #[.int .i64 r1, v1_], .bool r3]) ∧ Kd.R k67 67 w' w.heap.size (fun _ => True) v1_ r2 ∧ Below w.heap.size w w' := by
 have hu24 := Tryd.underlying24
 have hu67 := Tryd.underlying67
 have HR0_1 := am hr0_1
 have HC0_1 := am hc0_1
 clear hr0_1 hc0_1
 have HB := am (Below.refl w.heap.size w)
 have H : (if ([] : List (S67)).length + l0_1.length < 8796093022208 then (R2_ClosedZone.l0 k (wrap64 (a0_0 + 1)) 0 a0_0 (([] : List (S67)) ++ l0_1)) else (none)) = some (r1, r2, r3) := h
 clear h
 by_cases c2 : ([] : List (S67)).length + l0_1.length < 8796093022208
 ·rw [if_pos c2] at H
  have LMc2 := am c2
  clear c2
  obtain ⟨y190, hy190⟩ : ∃ y_ : List (S67), y_ = (([] : List (S67)) ++ l0_1) := ⟨_, rfl⟩
  replace H : (R2_ClosedZone.l0 k (wrap64 (a0_0 + 1)) 0 a0_0 y190) = some (r1, r2, r3) := by first | (rw [hy190]; with_reducible exact H) | (have H2_ := (Option.bind_some _ _).symm.trans H; rw [hy190]; with_reducible exact H2_) | (have H2_ := (Option.bind_some _ _).symm.trans H; with_reducible exact H2_) | with_reducible exact H | (rw [hy190]; exact H) | exact H
  have Ny190 := am hy190
  clear hy190
  have H' := am H
  clear H
  go_enter Tryd.func26, Tryd.ntmps26
  go_wp2_with (first | ((with_reducible refine gate_dst (N := 1) rfl ?_); refine box_event ?hg (N := 1) ?hd (cs := #[.int .i64 a0_0, .slice A0_1 l0_1.length c0_1]) (t := 24) ?hr ?_; (case hd => rfl); (case hg => rfl); (case hr => first | (go_simp; done) | (go_simp; rfl)); intro gb187 hg w3 hbox hb; have n0_ := am (below_step pw hb); have n1_ := am (hbox); have n2_ := am ((by rw [hg]; exact (below_size pw) : w.heap.size ≤ gb187)); have n3_ := am ((by rw [hg]; exact (below_size pw) : w.heap.size ≤ gb187)); clear HB; have HB := n0_; have BK187 := n1_; have GW187 := n2_; have GE187 := n3_; clear n0_ n1_ n2_ n3_; clear hb hbox hg) | ((with_reducible refine gate_dst (N := 2) rfl ?_); refine box_event ?hg (N := 2) ?hd (cs := #[.int .i64 0, .slice none 0 0]) (t := 24) ?hr ?_; (case hd => rfl); (case hg => rfl); (case hr => first | (go_simp; done) | (go_simp; rfl)); intro gb188 hg w4 hbox hb; have n0_ := bb BK187 hb; have n1_ := am (below_step pw hb); have n2_ := am (hbox); have n3_ := am ((by rw [hg]; exact (below_size pw) : w.heap.size ≤ gb188)); have n4_ := am ((by rw [hg]; exact (below_size pw) : w.heap.size ≤ gb188)); have n5_ := am ((by rw [hg]; exact Nat.ne_of_lt (blk_lt pk) : gb187 ≠ gb188)); have n6_ := am ((by rw [hg]; exact Nat.ne_of_gt (blk_lt pk) : gb188 ≠ gb187)); clear BK187; clear HB; have BK187 := n0_; have HB := n1_; have BK188 := n2_; have GW188 := n3_; have GE188 := n4_; have NB187_188 := n5_; have NB188_187 := n6_; clear n0_ n1_ n2_ n3_ n4_ n5_ n6_; clear hb hbox hg; have hnb5 := NB187_188.out; have hnc5 := NB188_187.out; have hcz6_0 : w4.cell? ⟨gb187, 0, none⟩ = some (.int .i64 a0_0) := bc BK187 0; have hcz6_1 : w4.cell? ⟨gb187, 1, none⟩ = some (.slice A0_1 l0_1.length c0_1) := bc BK187 1; have hfz6_0 := blk_frozen BK187.out 0; have hfz6_1 := blk_frozen BK187.out 1) | ((with_reducible refine gate_dst (N := 5) rfl ?_); refine box_event ?hg (N := 5) ?hd (cs := #[.int .i64 0, .slice none 0 0]) (t := 24) ?hr ?_; (case hd => rfl); (case hg => rfl); (case hr => first | (go_simp; done) | (go_simp; rfl)); intro gb189 hg w7 hbox hb; have n0_ := bb BK187 hb; have n1_ := bb BK188 hb; have n2_ := am (below_step pw hb); have n3_ := am (hbox); have n4_ := am ((by rw [hg]; exact (below_size pw) : w.heap.size ≤ gb189)); have n5_ := am ((by rw [hg]; exact (below_size pw) : w.heap.size ≤ gb189)); have n6_ := am ((by rw [hg]; exact Nat.ne_of_lt (blk_lt pk) : gb187 ≠ gb189)); have n7_ := am ((by rw [hg]; exact Nat.ne_of_gt (blk_lt pk) : gb189 ≠ gb187)); have n8_ := am ((by rw [hg]; exact Nat.ne_of_lt (blk_lt pk) : gb188 ≠ gb189)); have n9_ := am ((by rw [hg]; exact Nat.ne_of_gt (blk_lt pk) : gb189 ≠ gb188)); clear BK187; clear BK188; clear HB; have BK187 := n0_; have BK188 := n1_; have HB := n2_; have BK189 := n3_; have GW189 := n4_; have GE189 := n5_; have NB187_189 := n6_; have NB189_187 := n7_; have NB188_189 := n8_; have NB189_188 := n9_; clear n0_ n1_ n2_ n3_ n4_ n5_ n6_ n7_ n8_ n9_; clear hb hbox hg; have hnb8 := NB189_187.out; have hnc8 := NB187_189.out; have hnb9 := NB189_188.out; have hnc9 := NB188_189.out; have hcz10_0 : w7.cell? ⟨gb189, 0, none⟩ = some (.int .i64 0) := bc BK189 0; have hcz10_1 : w7.cell? ⟨gb189, 1, none⟩ = some (.slice none 0 0) := bc BK189 1; have hfz10_0 := blk_frozen BK189.out 0; have hfz10_1 := blk_frozen BK189.out 1; have hcz11_0 : w7.cell? ⟨gb187, 0, none⟩ = some (.int .i64 a0_0) := bc BK187 0; have hcz11_1 : w7.cell? ⟨gb187, 1, none⟩ = some (.slice A0_1 l0_1.length c0_1) := bc BK187 1; have hfz11_0 := blk_frozen BK187.out 0; have hfz11_1 := blk_frozen BK187.out 1) | ((with_reducible refine gate_builtin (b := .append) (xs := #[.tmp 21, .tmp 23]) rfl ?_); at_builtin; refine Kd.R_append_rows k67 (w0 := w) w.heap.size rfl (.tmp 21) (.tmp 23) 22 67 (.agg #[(.bool false), (.int .i64 0)]) 16 rfl Tryd.underlying22 info67 rfl (by decide) (by omega) (.slice none 0 0) ([] : List (S67)) l0_1 _ _ _ (fun _ => True) (fun _ => False) rfl rfl ?aO ?aR (fun _ _ h => h) (fun _ h => h.elim) ?aF ?aB ?aS ?aL ?_; (case aR => exact Kd.C_below HR0_1.out pw); (case aB => exact pw); (case aF => exact (fun _ _ => trivial)); (case aO => exact ((Kd.R_nil _ _ _ _ (fun _ => True)))); (case aS => exact (below_size pw)); (case aL => have := LMc2.out; omega); intro v191 w12 ho hb hg hat; rw [← Ny190.out] at ho; have n0_ := am (blk_grown (g := gb187) (o := .cells #[.int .i64 a0_0, .slice A0_1 l0_1.length c0_1] 24 (0, 0)) (by (with_reducible repeat (first | refine blk_drewN ?_ _ | refine blk_drew ?_ | refine blk_alloc ?_ _)); refine blk_far ?_ NB187_189.out _; (with_reducible repeat (first | refine blk_drewN ?_ _ | refine blk_drew ?_ | refine blk_alloc ?_ _)); refine blk_far ?_ NB187_189.out _; (with_reducible repeat (first | refine blk_drewN ?_ _ | refine blk_drew ?_ | refine blk_alloc ?_ _)); exact BK187.out) hg (by simp [Value.ownBlock])); have n1_ := am (blk_grown (g := gb188) (o := .cells #[.int .i64 0, .slice none 0 0] 24 (0, 0)) (by (with_reducible repeat (first | refine blk_drewN ?_ _ | refine blk_drew ?_ | refine blk_alloc ?_ _)); refine blk_far ?_ NB188_189.out _; (with_reducible repeat (first | refine blk_drewN ?_ _ | refine blk_drew ?_ | refine blk_alloc ?_ _)); refine blk_far ?_ NB188_189.out _; (with_reducible repeat (first | refine blk_drewN ?_ _ | refine blk_drew ?_ | refine blk_alloc ?_ _)); exact BK188.out) hg (by simp [Value.ownBlock])); have n2_ := am (blk_grown (g := gb189) (o := .cells #[.int .i64 a0_0, .slice none 0 0] 24 (0, 0)) (by (with_reducible repeat (first | refine blk_drewN ?_ _ | refine blk_drew ?_ | refine blk_alloc ?_ _)); refine blk_put (cs := #[.int .i64 a0_0, .slice none 0 0]) ?_ 1 _ rfl; (with_reducible repeat (first | refine blk_drewN ?_ _ | refine blk_drew ?_ | refine blk_alloc ?_ _)); refine blk_put (cs := #[.int .i64 0, .slice none 0 0]) ?_ 0 _ rfl; (with_reducible repeat (first | refine blk_drewN ?_ _ | refine blk_drew ?_ | refine blk_alloc ?_ _)); exact BK189.out) hg (by simp [Value.ownBlock])); have n3_ := am (hb); have n4_ := am (ho); clear BK187; clear BK188; clear BK189; clear HB; have BK187 := n0_; have BK188 := n1_; have BK189 := n2_; have HB := n3_; have HO192 := n4_; clear n0_ n1_ n2_ n3_ n4_; clear ho hb hg hat; obtain ⟨Ao13, co13, eo13⟩ := Kd.R_slice HO192.out; subst eo13; have hcz14_0 : w12.cell? ⟨gb189, 0, none⟩ = some (.int .i64 a0_0) := bc BK189 0; have hcz14_1 : w12.cell? ⟨gb189, 1, none⟩ = some (.slice none 0 0) := bc BK189 1; have hfz14_0 := blk_frozen BK189.out 0; have hfz14_1 := blk_frozen BK189.out 1))
  go_loopg [6] k (fun kq v6 w' => ∃ (x6_1 : Int) (x190001_1 : List (S67)) (u190001 : Value), v6 = .int .i64 x6_1 ∧ Aside0 (R2_ClosedZone.l0 kq (wrap64 (a0_0 + 1)) x6_1 a0_0 x190001_1 = some (r1, r2, r3)) ∧ Aside0 (kq ≤ k) ∧ Aside0 (Kd.R k67 67 w' w.heap.size (fun _ => True) u190001 x190001_1) ∧ Aside0 (w'.heap[gb187]? = some (.cells #[.int .i64 a0_0, (.slice A0_1 l0_1.length c0_1)] 24 (0, 0))) ∧ Aside0 (w'.heap[gb188]? = some (.cells #[.int .i64 0, (.slice none 0 0)] 24 (0, 0))) ∧ Aside0 (w'.heap[gb189]? = some (.cells #[.int .i64 a0_0, u190001] 24 (0, 0))) ∧ Aside0 (Below w.heap.size w w'))
  case atStart => exact ⟨(0), (y190), (.slice Ao13 y190.length co13), pr, H', ⟨Nat.le_refl _⟩, ⟨by (with_reducible repeat (first | apply Kd.R_alloc | apply Kd.R_drewN | apply Kd.R_drew)); exact Kd.R_mono (Kd.R_far (p := ⟨gb189, 1, none⟩) (Kd.R_types HO192.out BK189.out (by decide)) (fun _ hk => hk.2) (.slice Ao13 y190.length co13)) (fun _ hk => trivial)⟩, ⟨by (with_reducible repeat (first | refine blk_drewN ?_ _ | refine blk_drew ?_ | refine blk_alloc ?_ _)); refine blk_far ?_ NB187_189.out _; (with_reducible repeat (first | refine blk_drewN ?_ _ | refine blk_drew ?_ | refine blk_alloc ?_ _)); exact BK187.out⟩, ⟨by (with_reducible repeat (first | refine blk_drewN ?_ _ | refine blk_drew ?_ | refine blk_alloc ?_ _)); refine blk_far ?_ NB188_189.out _; (with_reducible repeat (first | refine blk_drewN ?_ _ | refine blk_drew ?_ | refine blk_alloc ?_ _)); exact BK188.out⟩, ⟨by (with_reducible repeat (first | refine blk_drewN ?_ _ | refine blk_drew ?_ | refine blk_alloc ?_ _)); refine blk_put (cs := #[.int .i64 a0_0, .slice none 0 0]) ?_ 1 _ rfl; (with_reducible repeat (first | refine blk_drewN ?_ _ | refine blk_drew ?_ | refine blk_alloc ?_ _)); exact BK189.out⟩, ⟨pw⟩⟩
  case round =>
   clear H'
   try clear c2
   try clear p2
   try clear c5
   try clear p6
   try clear c8
   try clear c9
   try clear hcz10_0
   try clear hcz10_1
   try clear hcz11_0
   try clear hcz11_1
   try clear hcz14_0
   try clear hcz14_1
   try clear hcz6_0
   try clear hcz6_1
   try clear hfz10_0
   try clear hfz10_1
   try clear hfz11_0
   try clear hfz11_1
   try clear hfz14_0
   try clear hfz14_1
   try clear hfz6_0
   try clear hfz6_1
   obtain ⟨x6_1, x190001_1, u190001, rfl, HA, HK1, HO_190001, BK187, BK188, BK189, HB⟩ := hrel
   cases gk with
   | zero => exact absurd HA.out (by simp [R2_ClosedZone.l0])
   | succ k1 =>
    have H := HA.out
    clear HA
    simp only [R2_ClosedZone.l0] at H
    by_cases c15 : x6_1 < (wrap64 (a0_0 + 1))
    ·rw [if_pos c15] at H
     have c15b0 : decide (x6_1 < (wrap64 (a0_0 + 1))) = true := decide_eq_true c15
     clear c15
     replace H := Option.bind_eq_some_iff.mp H
     obtain ⟨⟨t193, t194⟩, A160, H⟩ := H
     replace H : (R2_ClosedZone.l0 k1 (wrap64 (a0_0 + 1)) (wrap64 (x6_1 + 1)) a0_0 t194) = some (r1, r2, r3) := H
     have A16 := am A160
     clear A160
     have H' := am H
     clear H
     have hnb17 := NB189_187.out
     have hnc17 := NB187_189.out
     have hnb18 := NB189_188.out
     have hnc18 := NB188_189.out
     have hcz19_0 : wr.cell? ⟨gb189, 0, none⟩ = some (.int .i64 a0_0) := bc BK189 0
     have hcz19_1 : wr.cell? ⟨gb189, 1, none⟩ = some (u190001) := bc BK189 1
     have hfz19_0 := blk_frozen BK189.out 0
     have hfz19_1 := blk_frozen BK189.out 1
     obtain ⟨Ao20, co20, eo20⟩ := Kd.R_slice HO_190001.out
     subst eo20
     go_wp2_with (first | ((with_reducible refine gate_callee (f := 90) rfl ?_); refine goesL_ (some 38) rfl rfl Tryd.func90 kk rfl #[.slice Ao20 x190001_1.length co20, .int .i64 (wrap64 ((wrap64 (x6_1 * (wrap64 (a0_0 + 1)))) + x6_1)), .int .i64 0] rfl (by (try simp only [List.map_toArray, List.map_cons, List.map_nil]); first | done | rfl | (simp only [List.length_drop, List.length_take]; rfl)) ?_; (with_reducible refine (R2_lower.calls (fun k_ => some k_ = (.slice Ao20 x190001_1.length co20 : Value).ownBlock) (.slice Ao20 x190001_1.length co20) x190001_1 (wrap64 ((wrap64 (x6_1 * (wrap64 (a0_0 + 1)))) + x6_1)) 0 t193 t194 w _ ?side1 ?side2 A16.out).mono ?_); (case side1 => repeat (first | (with_reducible first | exact HB.out | apply below_alloc | apply pw_below_drewN | apply below_drew1 | refine below_set ?_ GE187.out | refine below_set ?_ GE188.out | refine below_set ?_ GE189.out) | exact HB.out)); (case side2 => exact Kd.R_tight rfl HO_190001.out); rintro e w21 ⟨rfl, hy0, hb, hkp⟩; refine ⟨_, rfl, ?_⟩; have n0_ := am (Kd.R_reok rfl hy0 (fun k_ e_ => HO_190001.out.1 k_ e_)); have n1_ := am (blk_kept pk hkp (fun hs_ => (fun e_ => (Kd.R_ne HO_190001.out BK187.out (by decide)) e_) hs_)); have n2_ := am (blk_kept pk hkp (fun hs_ => (fun e_ => (Kd.R_ne HO_190001.out BK188.out (by decide)) e_) hs_)); have n3_ := am (blk_kept pk hkp (fun hs_ => (fun e_ => (Kd.R_ne HO_190001.out BK189.out (by decide)) e_) hs_)); have n4_ := am (hb); clear HO_190001; clear BK187; clear BK188; clear BK189; clear HB; have HO_190001 := n0_; have BK187 := n1_; have BK188 := n2_; have BK189 := n3_; have HB := n4_; clear n0_ n1_ n2_ n3_ n4_; (try clear hb); (try clear hkp); (try clear hy0)))
     go_roundg k1
     case measure => have := HK1.out; omega
     case rel => exact ⟨(wrap64 (x6_1 + 1)), (t194), (.slice Ao20 x190001_1.length co20), pr, H', ⟨by have := HK1.out; omega⟩, ⟨by (with_reducible repeat (first | apply Kd.R_alloc | apply Kd.R_drewN | apply Kd.R_drew)); exact HO_190001.out⟩, ⟨pk⟩, ⟨pk⟩, ⟨pk⟩, ⟨pw⟩⟩
    rw [if_neg c15] at H
    have c15b0 : decide (x6_1 < (wrap64 (a0_0 + 1))) = false := decide_eq_false c15
    clear c15
    have H' := am H
    clear H
    go_wp2
    go_loopg [7] k1 (fun kq v7 w' => ∃ (x7_2 : Int) (x190001_2 : List (S67)) (u190001 : Value), v7 = .int .i64 x7_2 ∧ Aside0 (R2_ClosedZone.l1 kq (wrap64 (a0_0 + 1)) x7_2 a0_0 x190001_2 = some (r1, r2, r3)) ∧ Aside0 (kq ≤ k1) ∧ Aside0 (Kd.R k67 67 w' w.heap.size (fun _ => True) u190001 x190001_2) ∧ Aside0 (w'.heap[gb187]? = some (.cells #[.int .i64 a0_0, (.slice A0_1 l0_1.length c0_1)] 24 (0, 0))) ∧ Aside0 (w'.heap[gb188]? = some (.cells #[.int .i64 0, (.slice none 0 0)] 24 (0, 0))) ∧ Aside0 (w'.heap[gb189]? = some (.cells #[.int .i64 a0_0, u190001] 24 (0, 0))) ∧ Aside0 (Below w.heap.size w w'))
    case atStart => exact ⟨(0), (x190001_1), (u190001), pr, H', ⟨Nat.le_refl _⟩, ⟨by (with_reducible repeat (first | apply Kd.R_alloc | apply Kd.R_drewN | apply Kd.R_drew)); exact HO_190001.out⟩, ⟨pk⟩, ⟨pk⟩, ⟨pk⟩, ⟨pw⟩⟩
    case round =>
     clear H'
     try clear c1
     try clear c2
     try clear p2
     try clear c5
     try clear p6
     try clear c8
     try clear c9
     try clear c15
     try clear c15b0
     try clear c17
     try clear c18
     try clear hcz10_0
     try clear hcz10_1
     try clear hcz11_0
     try clear hcz11_1
     try clear hcz14_0
     try clear hcz14_1
     try clear hcz19_0
     try clear hcz19_1
     try clear hcz6_0
     try clear hcz6_1
     try clear hfz10_0
     try clear hfz10_1
     try clear hfz11_0
     try clear hfz11_1
     try clear hfz14_0
     try clear hfz14_1
     try clear hfz19_0
     try clear hfz19_1
     try clear hfz6_0
     try clear hfz6_1
     try clear p2
     try clear p6
     obtain ⟨x7_2, x190001_2, u190001, rfl, HA, HK2, HO_190001, BK187, BK188, BK189, HB⟩ := hrel
     cases gk with
     | zero => exact absurd HA.out (by simp [R2_ClosedZone.l1])
     | succ k2 =>
      have H := HA.out
      clear HA
      simp only [R2_ClosedZone.l1] at H
      by_cases c22 : x7_2 ≤ (wrap64 (a0_0 + 1))
      ·rw [if_pos c22] at H
       have c22b0 : decide (x7_2 ≤ (wrap64 (a0_0 + 1))) = true := decide_eq_true c22
       clear c22
       have H' := am H
       clear H
       go_wp2
       go_loopg [8] k2 (fun kq v8 w' => ∃ (x8_3 : Int) (x190001_3 : List (S67)) (u190001 : Value), v8 = .int .i64 x8_3 ∧ Aside0 (R2_ClosedZone.l2 kq (wrap64 (a0_0 + 1)) x7_2 x8_3 a0_0 x190001_3 = some (r1, r2, r3)) ∧ Aside0 (kq ≤ k2) ∧ Aside0 (Kd.R k67 67 w' w.heap.size (fun _ => True) u190001 x190001_3) ∧ Aside0 (w'.heap[gb187]? = some (.cells #[.int .i64 a0_0, (.slice A0_1 l0_1.length c0_1)] 24 (0, 0))) ∧ Aside0 (w'.heap[gb188]? = some (.cells #[.int .i64 0, (.slice none 0 0)] 24 (0, 0))) ∧ Aside0 (w'.heap[gb189]? = some (.cells #[.int .i64 a0_0, u190001] 24 (0, 0))) ∧ Aside0 (Below w.heap.size w w'))
       case atStart => exact ⟨(0), (x190001_2), (u190001), pr, H', ⟨Nat.le_refl _⟩, ⟨by (with_reducible repeat (first | apply Kd.R_alloc | apply Kd.R_drewN | apply Kd.R_drew)); exact HO_190001.out⟩, ⟨pk⟩, ⟨pk⟩, ⟨pk⟩, ⟨pw⟩⟩
       case round =>
        clear H'
        try clear c1
        try clear c2
        try clear p2
        try clear c5
        try clear p6
        try clear c8
        try clear c9
        try clear c15
        try clear c15b0
        try clear c17
        try clear c18
        try clear c22
        try clear c22b0
        try clear hcz10_0
        try clear hcz10_1
        try clear hcz11_0
        try clear hcz11_1
        try clear hcz14_0
        try clear hcz14_1
        try clear hcz19_0
        try clear hcz19_1
        try clear hcz6_0
        try clear hcz6_1
        try clear hfz10_0
        try clear hfz10_1
        try clear hfz11_0
        try clear hfz11_1
        try clear hfz14_0
        try clear hfz14_1
        try clear hfz19_0
        try clear hfz19_1
        try clear hfz6_0
        try clear hfz6_1
        try clear p2
        try clear p6
        obtain ⟨x8_3, x190001_3, u190001, rfl, HA, HK3, HO_190001, BK187, BK188, BK189, HB⟩ := hrel
        cases gk with
        | zero => exact absurd HA.out (by simp [R2_ClosedZone.l2])
        | succ k3 =>
         have H := HA.out
         clear HA
         simp only [R2_ClosedZone.l2] at H
         by_cases c23 : x8_3 < (wrap64 (a0_0 + 1))
         ·rw [if_pos c23] at H
          have c23b0 : decide (x8_3 < (wrap64 (a0_0 + 1))) = true := decide_eq_true c23
          clear c23
          have H' := am H
          clear H
          go_wp2
          go_loopg [9] k3 (fun kq v9 w' => ∃ (x9_4 : Int) (x190001_4 : List (S67)) (u190001 : Value), v9 = .int .i64 x9_4 ∧ Aside0 (R2_ClosedZone.l3 kq (wrap64 (a0_0 + 1)) x7_2 x8_3 x9_4 a0_0 x190001_4 = some (r1, r2, r3)) ∧ Aside0 (kq ≤ k3) ∧ Aside0 (Kd.R k67 67 w' w.heap.size (fun _ => True) u190001 x190001_4) ∧ Aside0 (w'.heap[gb187]? = some (.cells #[.int .i64 a0_0, (.slice A0_1 l0_1.length c0_1)] 24 (0, 0))) ∧ Aside0 (w'.heap[gb188]? = some (.cells #[.int .i64 0, (.slice none 0 0)] 24 (0, 0))) ∧ Aside0 (w'.heap[gb189]? = some (.cells #[.int .i64 a0_0, u190001] 24 (0, 0))) ∧ Aside0 (Below w.heap.size w w'))
          case atStart => exact ⟨(0), (x190001_3), (u190001), pr, H', ⟨Nat.le_refl _⟩, ⟨by (with_reducible repeat (first | apply Kd.R_alloc | apply Kd.R_drewN | apply Kd.R_drew)); exact HO_190001.out⟩, ⟨pk⟩, ⟨pk⟩, ⟨pk⟩, ⟨pw⟩⟩
          case round =>
           clear H'
           try clear c1
           try clear c2
           try clear p2
           try clear c5
           try clear p6
           try clear c8
           try clear c9
           try clear c15
           try clear c15b0
           try clear c17
           try clear c18
           try clear c22
           try clear c22b0
           try clear c23
           try clear c23b0
           try clear hcz10_0
           try clear hcz10_1
           try clear hcz11_0
           try clear hcz11_1
           try clear hcz14_0
           try clear hcz14_1
           try clear hcz19_0
           try clear hcz19_1
           try clear hcz6_0
           try clear hcz6_1
           try clear hfz10_0
           try clear hfz10_1
           try clear hfz11_0
           try clear hfz11_1
           try clear hfz14_0
           try clear hfz14_1
           try clear hfz19_0
           try clear hfz19_1
           try clear hfz6_0
           try clear hfz6_1
           try clear p2
           try clear p6
           obtain ⟨x9_4, x190001_4, u190001, rfl, HA, HK4, HO_190001, BK187, BK188, BK189, HB⟩ := hrel
           cases gk with
           | zero => exact absurd HA.out (by simp [R2_ClosedZone.l3])
           | succ k4 =>
            have H := HA.out
            clear HA
            simp only [R2_ClosedZone.l3] at H
            by_cases c24 : x9_4 < (wrap64 (a0_0 + 1))
            ·rw [if_pos c24] at H
             have c24b0 : decide (x9_4 < (wrap64 (a0_0 + 1))) = true := decide_eq_true c24
             clear c24
             have H' := am H
             clear H
             go_wp2
             go_loopg [10] k4 (fun kq v10 w' => ∃ (x10_5 : Int) (x190001_5 : List (S67)) (u190001 : Value), v10 = .int .i64 x10_5 ∧ Aside0 (R2_ClosedZone.l4 kq (wrap64 (a0_0 + 1)) x7_2 x8_3 x9_4 x10_5 a0_0 x190001_5 = some (r1, r2, r3)) ∧ Aside0 (kq ≤ k4) ∧ Aside0 (Kd.R k67 67 w' w.heap.size (fun _ => True) u190001 x190001_5) ∧ Aside0 (w'.heap[gb187]? = some (.cells #[.int .i64 a0_0, (.slice A0_1 l0_1.length c0_1)] 24 (0, 0))) ∧ Aside0 (w'.heap[gb188]? = some (.cells #[.int .i64 0, (.slice none 0 0)] 24 (0, 0))) ∧ Aside0 (w'.heap[gb189]? = some (.cells #[.int .i64 a0_0, u190001] 24 (0, 0))) ∧ Aside0 (Below w.heap.size w w'))
             case atStart => exact ⟨(0), (x190001_4), (u190001), pr, H', ⟨Nat.le_refl _⟩, ⟨by (with_reducible repeat (first | apply Kd.R_alloc | apply Kd.R_drewN | apply Kd.R_drew)); exact HO_190001.out⟩, ⟨pk⟩, ⟨pk⟩, ⟨pk⟩, ⟨pw⟩⟩
             case round =>
              clear H'
              try clear c1
              try clear c2
              try clear p2
              try clear c5
              try clear p6
              try clear c8
              try clear c9
              try clear c15
              try clear c15b0
              try clear c17
              try clear c18
              try clear c22
              try clear c22b0
              try clear c23
              try clear c23b0
              try clear c24
              try clear c24b0
              try clear hcz10_0
              try clear hcz10_1
              try clear hcz11_0
              try clear hcz11_1
              try clear hcz14_0
              try clear hcz14_1
              try clear hcz19_0
              try clear hcz19_1
              try clear hcz6_0
              try clear hcz6_1
              try clear hfz10_0
              try clear hfz10_1
              try clear hfz11_0
              try clear hfz11_1
              try clear hfz14_0
              try clear hfz14_1
              try clear hfz19_0
              try clear hfz19_1
              try clear hfz6_0
              try clear hfz6_1
              try clear p2
              try clear p6
              obtain ⟨x10_5, x190001_5, u190001, rfl, HA, HK5, HO_190001, BK187, BK188, BK189, HB⟩ := hrel
              cases gk with
              | zero => exact absurd HA.out (by simp [R2_ClosedZone.l4])
              | succ k5 =>
               have H := HA.out
               clear HA
               simp only [R2_ClosedZone.l4] at H
               by_cases c25 : x10_5 < (wrap64 (a0_0 + 1))
               ·rw [if_pos c25] at H
                have c25b0 : decide (x10_5 < (wrap64 (a0_0 + 1))) = true := decide_eq_true c25
                clear c25
                obtain ⟨ji26, hji26⟩ : ∃ j_ : Int, (wrap64 ((wrap64 (x8_3 * (wrap64 (a0_0 + 1)))) + x10_5)) = j_ := ⟨_, rfl⟩
                replace H : (if 0 ≤ (ji26) then (if (ji26) < (x190001_5.length : Int) then (if 0 ≤ (wrap64 ((wrap64 (x10_5 * (wrap64 (a0_0 + 1)))) + x9_4)) then (if (wrap64 ((wrap64 (x10_5 * (wrap64 (a0_0 + 1)))) + x9_4)) < (x190001_5.length : Int) then (if (rd_T67 x190001_5 (ji26)).f0 = true then (if (rd_T67 x190001_5 (wrap64 ((wrap64 (x10_5 * (wrap64 (a0_0 + 1)))) + x9_4))).f0 = true then ((R2_lower.f x190001_5 (wrap64 ((wrap64 (x8_3 * (wrap64 (a0_0 + 1)))) + x9_4)) (wrap64 (((rd_T67 x190001_5 (ji26)).f1) + ((rd_T67 x190001_5 (wrap64 ((wrap64 (x10_5 * (wrap64 (a0_0 + 1)))) + x9_4))).f1)))).bind fun bt199 => (R2_ClosedZone.l4 k5 (wrap64 (a0_0 + 1)) x7_2 x8_3 x9_4 (wrap64 (x10_5 + 1)) a0_0 bt199.2)) else (R2_ClosedZone.l4 k5 (wrap64 (a0_0 + 1)) x7_2 x8_3 x9_4 (wrap64 (x10_5 + 1)) a0_0 x190001_5)) else (R2_ClosedZone.l4 k5 (wrap64 (a0_0 + 1)) x7_2 x8_3 x9_4 (wrap64 (x10_5 + 1)) a0_0 x190001_5)) else (none)) else (none)) else (none)) else (none)) = some (r1, r2, r3) := by first | (rw [hji26] at H; exact H) | (simp only [hji26] at H ⊢; exact H)
                have hji26w : (IntKind.i64.wrap ((wrap64 (x8_3 * (wrap64 (a0_0 + 1)))) + x10_5)) = ji26 := (i64_w _).trans hji26
                by_cases c27 : 0 ≤ (ji26)
                ·rw [if_pos c27] at H
                 have c27b0 : decide (0 ≤ (ji26)) = true := decide_eq_true c27
                 clear c27
                 by_cases c28 : (ji26) < (x190001_5.length : Int)
                 ·rw [if_pos c28] at H
                  have c28b0 : decide ((ji26) < (x190001_5.length : Int)) = true := decide_eq_true c28
                  clear c28
                  obtain ⟨ji29, hji29⟩ : ∃ j_ : Int, (wrap64 ((wrap64 (x10_5 * (wrap64 (a0_0 + 1)))) + x9_4)) = j_ := ⟨_, rfl⟩
                  replace H : (if 0 ≤ (ji29) then (if (ji29) < (x190001_5.length : Int) then (if (rd_T67 x190001_5 (ji26)).f0 = true then (if (rd_T67 x190001_5 (ji29)).f0 = true then ((R2_lower.f x190001_5 (wrap64 ((wrap64 (x8_3 * (wrap64 (a0_0 + 1)))) + x9_4)) (wrap64 (((rd_T67 x190001_5 (ji26)).f1) + ((rd_T67 x190001_5 (ji29)).f1)))).bind fun bt199 => (R2_ClosedZone.l4 k5 (wrap64 (a0_0 + 1)) x7_2 x8_3 x9_4 (wrap64 (x10_5 + 1)) a0_0 bt199.2)) else (R2_ClosedZone.l4 k5 (wrap64 (a0_0 + 1)) x7_2 x8_3 x9_4 (wrap64 (x10_5 + 1)) a0_0 x190001_5)) else (R2_ClosedZone.l4 k5 (wrap64 (a0_0 + 1)) x7_2 x8_3 x9_4 (wrap64 (x10_5 + 1)) a0_0 x190001_5)) else (none)) else (none)) = some (r1, r2, r3) := by first | (rw [hji29] at H; exact H) | (simp only [hji29] at H ⊢; exact H)
                  have hji29w : (IntKind.i64.wrap ((wrap64 (x10_5 * (wrap64 (a0_0 + 1)))) + x9_4)) = ji29 := (i64_w _).trans hji29
                  by_cases c30 : 0 ≤ (ji29)
                  ·rw [if_pos c30] at H
                   have c30b0 : decide (0 ≤ (ji29)) = true := decide_eq_true c30
                   clear c30
                   by_cases c31 : (ji29) < (x190001_5.length : Int)
                   ·rw [if_pos c31] at H
                    have c31b0 : decide ((ji29) < (x190001_5.length : Int)) = true := decide_eq_true c31
                    clear c31
                    obtain ⟨bq32, hbq32⟩ : ∃ b_ : Bool, b_ = ((rd_T67 x190001_5 (ji26)).f0) := ⟨_, rfl⟩
                    replace H : (if bq32 = true then (if (rd_T67 x190001_5 (ji29)).f0 = true then ((R2_lower.f x190001_5 (wrap64 ((wrap64 (x8_3 * (wrap64 (a0_0 + 1)))) + x9_4)) (wrap64 (((rd_T67 x190001_5 (ji26)).f1) + ((rd_T67 x190001_5 (ji29)).f1)))).bind fun bt199 => (R2_ClosedZone.l4 k5 (wrap64 (a0_0 + 1)) x7_2 x8_3 x9_4 (wrap64 (x10_5 + 1)) a0_0 bt199.2)) else (R2_ClosedZone.l4 k5 (wrap64 (a0_0 + 1)) x7_2 x8_3 x9_4 (wrap64 (x10_5 + 1)) a0_0 x190001_5)) else (R2_ClosedZone.l4 k5 (wrap64 (a0_0 + 1)) x7_2 x8_3 x9_4 (wrap64 (x10_5 + 1)) a0_0 x190001_5)) = some (r1, r2, r3) := by rw [← hbq32] at H; exact H
                    have Nbq32 := am hbq32
                    clear hbq32
                    by_cases c33 : bq32 = true
                    ·subst c33
                     have H1 : (if (rd_T67 x190001_5 (ji29)).f0 = true then ((R2_lower.f x190001_5 (wrap64 ((wrap64 (x8_3 * (wrap64 (a0_0 + 1)))) + x9_4)) (wrap64 (((rd_T67 x190001_5 (ji26)).f1) + ((rd_T67 x190001_5 (ji29)).f1)))).bind fun bt199 => (R2_ClosedZone.l4 k5 (wrap64 (a0_0 + 1)) x7_2 x8_3 x9_4 (wrap64 (x10_5 + 1)) a0_0 bt199.2)) else (R2_ClosedZone.l4 k5 (wrap64 (a0_0 + 1)) x7_2 x8_3 x9_4 (wrap64 (x10_5 + 1)) a0_0 x190001_5)) = some (r1, r2, r3) := by rw [if_pos rfl] at H; exact H
                     clear H
                     have H := H1
                     clear H1
                     obtain ⟨bq34, hbq34⟩ : ∃ b_ : Bool, b_ = ((rd_T67 x190001_5 (ji29)).f0) := ⟨_, rfl⟩
                     replace H : (if bq34 = true then ((R2_lower.f x190001_5 (wrap64 ((wrap64 (x8_3 * (wrap64 (a0_0 + 1)))) + x9_4)) (wrap64 (((rd_T67 x190001_5 (ji26)).f1) + ((rd_T67 x190001_5 (ji29)).f1)))).bind fun bt199 => (R2_ClosedZone.l4 k5 (wrap64 (a0_0 + 1)) x7_2 x8_3 x9_4 (wrap64 (x10_5 + 1)) a0_0 bt199.2)) else (R2_ClosedZone.l4 k5 (wrap64 (a0_0 + 1)) x7_2 x8_3 x9_4 (wrap64 (x10_5 + 1)) a0_0 x190001_5)) = some (r1, r2, r3) := by rw [← hbq34] at H; exact H
                     have Nbq34 := am hbq34
                     clear hbq34
                     by_cases c35 : bq34 = true
                     ·subst c35
                      have H1 : ((R2_lower.f x190001_5 (wrap64 ((wrap64 (x8_3 * (wrap64 (a0_0 + 1)))) + x9_4)) (wrap64 (((rd_T67 x190001_5 (ji26)).f1) + ((rd_T67 x190001_5 (ji29)).f1)))).bind fun bt199 => (R2_ClosedZone.l4 k5 (wrap64 (a0_0 + 1)) x7_2 x8_3 x9_4 (wrap64 (x10_5 + 1)) a0_0 bt199.2)) = some (r1, r2, r3) := by rw [if_pos rfl] at H; exact H
                      clear H
                      have H := H1
                      clear H1
                      replace H := Option.bind_eq_some_iff.mp H
                      obtain ⟨⟨t199, t200⟩, A360, H⟩ := H
                      replace H : (R2_ClosedZone.l4 k5 (wrap64 (a0_0 + 1)) x7_2 x8_3 x9_4 (wrap64 (x10_5 + 1)) a0_0 t200) = some (r1, r2, r3) := H
                      have A36 := am A360
                      clear A360
                      have H' := am H
                      clear H
                      have hnb37 := NB189_187.out
                      have hnc37 := NB187_189.out
                      have hnb38 := NB189_188.out
                      have hnc38 := NB188_189.out
                      have hcz39_0 : wr.cell? ⟨gb189, 0, none⟩ = some (.int .i64 a0_0) := bc BK189 0
                      have hcz39_1 : wr.cell? ⟨gb189, 1, none⟩ = some (u190001) := bc BK189 1
                      have hfz39_0 := blk_frozen BK189.out 0
                      have hfz39_1 := blk_frozen BK189.out 1
                      obtain ⟨Ao40, co40, eo40⟩ := Kd.R_slice HO_190001.out
                      subst eo40
                      have p195 : 0 ≤ ((ji26) : Int) := of_decide_eq_true (by first | (with_reducible assumption) | assumption)
                      have q195 : (ji26) < (x190001_5.length : Int) := of_decide_eq_true (by first | (with_reducible assumption) | assumption)
                      obtain ⟨ad195, e195, hx195_0, hx195_1⟩ := at_T67 (Kd.R_reads' HO_190001.out).2.2 (ji26) p195 q195
                      (try rw [← Nbq32.out] at hx195_0)
                      (try rw [← Nbq34.out] at hx195_0)
                      cases e195
                      replace p195 := eq_true p195
                      replace q195 := eq_true q195
                      go_wp2_with (first | ((with_reducible refine gate_dst (N := 11) rfl ?_); refine box_event ?hg (N := 11) ?hd (cs := #[.bool false, .int .i64 0]) (t := 67) ?hr ?_; (case hd => rfl); (case hg => rfl); (case hr => first | (go_simp; done) | (go_simp; rfl)); intro gb196 hg w41 hbox hb; have n0_ := am (Kd.R_below (Kd.R_elderB (by (with_reducible repeat (first | apply Kd.R_alloc | apply Kd.R_drewN | apply Kd.R_drew)); exact HO_190001.out) gb196 (Nat.le_of_eq hg.symm)) hb); have n1_ := bb BK187 hb; have n2_ := bb BK188 hb; have n3_ := bb BK189 hb; have n4_ := am (below_step pw hb); have n5_ := am (hbox); have n6_ := am ((by rw [hg]; exact (below_size pw) : w.heap.size ≤ gb196)); have n7_ := am ((by rw [hg]; exact (below_size pw) : w.heap.size ≤ gb196)); have n8_ := am ((by rw [hg]; exact Nat.ne_of_lt (blk_lt pk) : gb187 ≠ gb196)); have n9_ := am ((by rw [hg]; exact Nat.ne_of_gt (blk_lt pk) : gb196 ≠ gb187)); have n10_ := am ((by rw [hg]; exact Nat.ne_of_lt (blk_lt pk) : gb188 ≠ gb196)); have n11_ := am ((by rw [hg]; exact Nat.ne_of_gt (blk_lt pk) : gb196 ≠ gb188)); have n12_ := am ((by rw [hg]; exact Nat.ne_of_lt (blk_lt pk) : gb189 ≠ gb196)); have n13_ := am ((by rw [hg]; exact Nat.ne_of_gt (blk_lt pk) : gb196 ≠ gb189)); clear HO_190001; clear BK187; clear BK188; clear BK189; clear HB; have HO_190001 := n0_; have BK187 := n1_; have BK188 := n2_; have BK189 := n3_; have HB := n4_; have BK196 := n5_; have GW196 := n6_; have GE196 := n7_; have NB187_196 := n8_; have NB196_187 := n9_; have NB188_196 := n10_; have NB196_188 := n11_; have NB189_196 := n12_; have NB196_189 := n13_; clear n0_ n1_ n2_ n3_ n4_ n5_ n6_ n7_ n8_ n9_ n10_ n11_ n12_ n13_; clear hb hbox hg; have hnb42 := NB196_187.out; have hnc42 := NB187_196.out; have hnb43 := NB196_188.out; have hnc43 := NB188_196.out; have hnb44 := NB196_189.out; have hnc44 := NB189_196.out; have hcz45_0 : w41.cell? ⟨gb196, 0, none⟩ = some (.bool false) := bc BK196 0; have hcz45_1 : w41.cell? ⟨gb196, 1, none⟩ = some (.int .i64 0) := bc BK196 1; have hfz45_0 := blk_frozen BK196.out 0; have hfz45_1 := blk_frozen BK196.out 1; have hcz46_0 : w41.cell? ⟨gb189, 0, none⟩ = some (.int .i64 a0_0) := bc BK189 0; have hcz46_1 : w41.cell? ⟨gb189, 1, none⟩ = some (.slice (some ad195) x190001_5.length co40) := bc BK189 1; have hfz46_0 := blk_frozen BK189.out 0; have hfz46_1 := blk_frozen BK189.out 1; have p197 : 0 ≤ ((ji29) : Int) := of_decide_eq_true (by first | (with_reducible assumption) | assumption); have q197 : (ji29) < (x190001_5.length : Int) := of_decide_eq_true (by first | (with_reducible assumption) | assumption); obtain ⟨ad197, e197, hx197_0, hx197_1⟩ := at_T67 (Kd.R_reads' HO_190001.out).2.2 (ji29) p197 q197; (try rw [← Nbq32.out] at hx197_0); (try rw [← Nbq34.out] at hx197_0); obtain rfl : ad195 = ad197 := (by injection e197); have hn197_0 : ad195.block ≠ gb196 := Kd.own_blk (Kd.R_away HO_190001.out (fun _ hk => hk.2)); have hn197_1 : ad195.block ≠ gb196 := Kd.own_blk (Kd.R_away HO_190001.out (fun _ hk => hk.2)); replace hx197_0 := (cell_far (p := ⟨gb196, 0, none⟩) (by first | (rw [add_block]; exact hn197_0) | (show (Addr.add _ _).block ≠ _; rw [add_block]; exact hn197_0) | exact hn197_0) (.bool true)).trans hx197_0; replace hx197_1 := (cell_far (p := ⟨gb196, 0, none⟩) (by first | (rw [add_block]; exact hn197_0) | (show (Addr.add _ _).block ≠ _; rw [add_block]; exact hn197_0) | exact hn197_0) (.bool true)).trans hx197_1; replace hx197_0 := (cell_far (p := ⟨gb196, 1, none⟩) (by first | (rw [add_block]; exact hn197_1) | (show (Addr.add _ _).block ≠ _; rw [add_block]; exact hn197_1) | exact hn197_1) (.int .i64 ((rd_T67 x190001_5 (ji26)).f1))).trans hx197_0; replace hx197_1 := (cell_far (p := ⟨gb196, 1, none⟩) (by first | (rw [add_block]; exact hn197_1) | (show (Addr.add _ _).block ≠ _; rw [add_block]; exact hn197_1) | exact hn197_1) (.int .i64 ((rd_T67 x190001_5 (ji26)).f1))).trans hx197_1; clear hn197_0; clear hn197_1; replace p197 := eq_true p197; replace q197 := eq_true q197) | ((with_reducible refine gate_dst (N := 12) rfl ?_); refine box_event ?hg (N := 12) ?hd (cs := #[.bool false, .int .i64 0]) (t := 67) ?hr ?_; (case hd => rfl); (case hg => rfl); (case hr => first | (go_simp; done) | (go_simp; rfl)); intro gb198 hg w47 hbox hb; have n0_ := am (Kd.R_below (Kd.R_elderB (by (with_reducible repeat (first | apply Kd.R_alloc | apply Kd.R_drewN | apply Kd.R_drew)); exact (Kd.R_mono (Kd.R_far (p := ⟨gb196, 1, none⟩) (Kd.R_far (p := ⟨gb196, 0, none⟩) (Kd.R_mono HO_190001.out (fun k_ hk => (⟨hk, hk.2⟩ : _ ∧ k_ ≠ gb196))) (fun _ hk => hk.2) (.bool true)) (fun _ hk => hk.2) (.int .i64 ((rd_T67 x190001_5 (ji26)).f1))) (fun _ h_ => h_.1))) gb198 (Nat.le_of_eq hg.symm)) hb); have n1_ := am (blk_below (g := gb187) (o := .cells #[.int .i64 a0_0, .slice A0_1 l0_1.length c0_1] 24 (0, 0)) (by (with_reducible repeat (first | refine blk_drewN ?_ _ | refine blk_drew ?_ | refine blk_alloc ?_ _)); refine blk_far ?_ NB187_196.out _; (with_reducible repeat (first | refine blk_drewN ?_ _ | refine blk_drew ?_ | refine blk_alloc ?_ _)); refine blk_far ?_ NB187_196.out _; (with_reducible repeat (first | refine blk_drewN ?_ _ | refine blk_drew ?_ | refine blk_alloc ?_ _)); exact BK187.out) hb); have n2_ := am (blk_below (g := gb188) (o := .cells #[.int .i64 0, .slice none 0 0] 24 (0, 0)) (by (with_reducible repeat (first | refine blk_drewN ?_ _ | refine blk_drew ?_ | refine blk_alloc ?_ _)); refine blk_far ?_ NB188_196.out _; (with_reducible repeat (first | refine blk_drewN ?_ _ | refine blk_drew ?_ | refine blk_alloc ?_ _)); refine blk_far ?_ NB188_196.out _; (with_reducible repeat (first | refine blk_drewN ?_ _ | refine blk_drew ?_ | refine blk_alloc ?_ _)); exact BK188.out) hb); have n3_ := am (blk_below (g := gb189) (o := .cells #[.int .i64 a0_0, .slice (some ad195) x190001_5.length co40] 24 (0, 0)) (by (with_reducible repeat (first | refine blk_drewN ?_ _ | refine blk_drew ?_ | refine blk_alloc ?_ _)); refine blk_far ?_ NB189_196.out _; (with_reducible repeat (first | refine blk_drewN ?_ _ | refine blk_drew ?_ | refine blk_alloc ?_ _)); refine blk_far ?_ NB189_196.out _; (with_reducible repeat (first | refine blk_drewN ?_ _ | refine blk_drew ?_ | refine blk_alloc ?_ _)); exact BK189.out) hb); have n4_ := am (blk_below (g := gb196) (o := .cells #[.bool true, .int .i64 ((rd_T67 x190001_5 (ji26)).f1)] 67 (0, 0)) (by (with_reducible repeat (first | refine blk_drewN ?_ _ | refine blk_drew ?_ | refine blk_alloc ?_ _)); refine blk_put (cs := #[.bool true, .int .i64 0]) ?_ 1 _ rfl; (with_reducible repeat (first | refine blk_drewN ?_ _ | refine blk_drew ?_ | refine blk_alloc ?_ _)); refine blk_put (cs := #[.bool false, .int .i64 0]) ?_ 0 _ rfl; (with_reducible repeat (first | refine blk_drewN ?_ _ | refine blk_drew ?_ | refine blk_alloc ?_ _)); exact BK196.out) hb); have n5_ := am (below_step pw hb); have n6_ := am (hbox); have n7_ := am ((by rw [hg]; exact (below_size pw) : w.heap.size ≤ gb198)); have n8_ := am ((by rw [hg]; exact (below_size pw) : w.heap.size ≤ gb198)); have n9_ := am ((by rw [hg]; exact Nat.ne_of_lt (blk_lt (g := gb187) (o := .cells #[.int .i64 a0_0, .slice A0_1 l0_1.length c0_1] 24 (0, 0)) (by (with_reducible repeat (first | refine blk_drewN ?_ _ | refine blk_drew ?_ | refine blk_alloc ?_ _)); refine blk_far ?_ NB187_196.out _; (with_reducible repeat (first | refine blk_drewN ?_ _ | refine blk_drew ?_ | refine blk_alloc ?_ _)); refine blk_far ?_ NB187_196.out _; (with_reducible repeat (first | refine blk_drewN ?_ _ | refine blk_drew ?_ | refine blk_alloc ?_ _)); exact BK187.out)) : gb187 ≠ gb198)); have n10_ := am ((by rw [hg]; exact Nat.ne_of_gt (blk_lt (g := gb187) (o := .cells #[.int .i64 a0_0, .slice A0_1 l0_1.length c0_1] 24 (0, 0)) (by (with_reducible repeat (first | refine blk_drewN ?_ _ | refine blk_drew ?_ | refine blk_alloc ?_ _)); refine blk_far ?_ NB187_196.out _; (with_reducible repeat (first | refine blk_drewN ?_ _ | refine blk_drew ?_ | refine blk_alloc ?_ _)); refine blk_far ?_ NB187_196.out _; (with_reducible repeat (first | refine blk_drewN ?_ _ | refine blk_drew ?_ | refine blk_alloc ?_ _)); exact BK187.out)) : gb198 ≠ gb187)); have n11_ := am ((by rw [hg]; exact Nat.ne_of_lt (blk_lt (g := gb188) (o := .cells #[.int .i64 0, .slice none 0 0] 24 (0, 0)) (by (with_reducible repeat (first | refine blk_drewN ?_ _ | refine blk_drew ?_ | refine blk_alloc ?_ _)); refine blk_far ?_ NB188_196.out _; (with_reducible repeat (first | refine blk_drewN ?_ _ | refine blk_drew ?_ | refine blk_alloc ?_ _)); refine blk_far ?_ NB188_196.out _; (with_reducible repeat (first | refine blk_drewN ?_ _ | refine blk_drew ?_ | refine blk_alloc ?_ _)); exact BK188.out)) : gb188 ≠ gb198)); have n12_ := am ((by rw [hg]; exact Nat.ne_of_gt (blk_lt (g := gb188) (o := .cells #[.int .i64 0, .slice none 0 0] 24 (0, 0)) (by (with_reducible repeat (first | refine blk_drewN ?_ _ | refine blk_drew ?_ | refine blk_alloc ?_ _)); refine blk_far ?_ NB188_196.out _; (with_reducible repeat (first | refine blk_drewN ?_ _ | refine blk_drew ?_ | refine blk_alloc ?_ _)); refine blk_far ?_ NB188_196.out _; (with_reducible repeat (first | refine blk_drewN ?_ _ | refine blk_drew ?_ | refine blk_alloc ?_ _)); exact BK188.out)) : gb198 ≠ gb188)); have n13_ := am ((by rw [hg]; exact Nat.ne_of_lt (blk_lt (g := gb189) (o := .cells #[.int .i64 a0_0, .slice (some ad195) x190001_5.length co40] 24 (0, 0)) (by (with_reducible repeat (first | refine blk_drewN ?_ _ | refine blk_drew ?_ | refine blk_alloc ?_ _)); refine blk_far ?_ NB189_196.out _; (with_reducible repeat (first | refine blk_drewN ?_ _ | refine blk_drew ?_ | refine blk_alloc ?_ _)); refine blk_far ?_ NB189_196.out _; (with_reducible repeat (first | refine blk_drewN ?_ _ | refine blk_drew ?_ | refine blk_alloc ?_ _)); exact BK189.out)) : gb189 ≠ gb198)); have n14_ := am ((by rw [hg]; exact Nat.ne_of_gt (blk_lt (g := gb189) (o := .cells #[.int .i64 a0_0, .slice (some ad195) x190001_5.length co40] 24 (0, 0)) (by (with_reducible repeat (first | refine blk_drewN ?_ _ | refine blk_drew ?_ | refine blk_alloc ?_ _)); refine blk_far ?_ NB189_196.out _; (with_reducible repeat (first | refine blk_drewN ?_ _ | refine blk_drew ?_ | refine blk_alloc ?_ _)); refine blk_far ?_ NB189_196.out _; (with_reducible repeat (first | refine blk_drewN ?_ _ | refine blk_drew ?_ | refine blk_alloc ?_ _)); exact BK189.out)) : gb198 ≠ gb189)); have n15_ := am ((by rw [hg]; exact Nat.ne_of_lt (blk_lt (g := gb196) (o := .cells #[.bool true, .int .i64 ((rd_T67 x190001_5 (ji26)).f1)] 67 (0, 0)) (by (with_reducible repeat (first | refine blk_drewN ?_ _ | refine blk_drew ?_ | refine blk_alloc ?_ _)); refine blk_put (cs := #[.bool true, .int .i64 0]) ?_ 1 _ rfl; (with_reducible repeat (first | refine blk_drewN ?_ _ | refine blk_drew ?_ | refine blk_alloc ?_ _)); refine blk_put (cs := #[.bool false, .int .i64 0]) ?_ 0 _ rfl; (with_reducible repeat (first | refine blk_drewN ?_ _ | refine blk_drew ?_ | refine blk_alloc ?_ _)); exact BK196.out)) : gb196 ≠ gb198)); have n16_ := am ((by rw [hg]; exact Nat.ne_of_gt (blk_lt (g := gb196) (o := .cells #[.bool true, .int .i64 ((rd_T67 x190001_5 (ji26)).f1)] 67 (0, 0)) (by (with_reducible repeat (first | refine blk_drewN ?_ _ | refine blk_drew ?_ | refine blk_alloc ?_ _)); refine blk_put (cs := #[.bool true, .int .i64 0]) ?_ 1 _ rfl; (with_reducible repeat (first | refine blk_drewN ?_ _ | refine blk_drew ?_ | refine blk_alloc ?_ _)); refine blk_put (cs := #[.bool false, .int .i64 0]) ?_ 0 _ rfl; (with_reducible repeat (first | refine blk_drewN ?_ _ | refine blk_drew ?_ | refine blk_alloc ?_ _)); exact BK196.out)) : gb198 ≠ gb196)); clear HO_190001; clear BK187; clear BK188; clear BK189; clear BK196; clear HB; have HO_190001 := n0_; have BK187 := n1_; have BK188 := n2_; have BK189 := n3_; have BK196 := n4_; have HB := n5_; have BK198 := n6_; have GW198 := n7_; have GE198 := n8_; have NB187_198 := n9_; have NB198_187 := n10_; have NB188_198 := n11_; have NB198_188 := n12_; have NB189_198 := n13_; have NB198_189 := n14_; have NB196_198 := n15_; have NB198_196 := n16_; clear n0_ n1_ n2_ n3_ n4_ n5_ n6_ n7_ n8_ n9_ n10_ n11_ n12_ n13_ n14_ n15_ n16_; clear hb hbox hg; have hnb48 := NB198_187.out; have hnc48 := NB187_198.out; have hnb49 := NB198_188.out; have hnc49 := NB188_198.out; have hnb50 := NB198_189.out; have hnc50 := NB189_198.out; have hnb51 := NB198_196.out; have hnc51 := NB196_198.out; have hcz52_0 : w47.cell? ⟨gb198, 0, none⟩ = some (.bool false) := bc BK198 0; have hcz52_1 : w47.cell? ⟨gb198, 1, none⟩ = some (.int .i64 0) := bc BK198 1; have hfz52_0 := blk_frozen BK198.out 0; have hfz52_1 := blk_frozen BK198.out 1) | ((with_reducible refine gate_store (t := 67) (p := 12) rfl ?_); refine store_event (t := 67) (p := 12) (v := ?vo_w53) (w1 := ((w47.setCell ⟨gb198, 0, none⟩ (.bool true)).setCell ⟨gb198, 1, none⟩ (.int .i64 ((rd_T67 x190001_5 (ji29)).f1)))) ?hg ?ho ?hn ?hr ?_; (case ho => rfl); (case hg => rfl); (case hn => rfl); (case hr => first | (go_simp; done) | (go_simp; rfl)); intro w53 hw; have n0_ : Aside0 (Kd.R k67 67 w53 w.heap.size (fun k_ => k_ ≠ gb196 ∧ k_ ≠ gb198) (.slice (some ad195) x190001_5.length co40) x190001_5) := ⟨(by rw [hw]; exact (by (with_reducible repeat (first | apply Kd.R_alloc | apply Kd.R_drewN | apply Kd.R_drew)); exact Kd.R_mono (Kd.R_far (p := ⟨gb198, 1, none⟩) (Kd.R_far (p := ⟨gb198, 0, none⟩) (Kd.R_mono HO_190001.out (fun k_ hk => (⟨hk, hk.2⟩ : _ ∧ k_ ≠ gb198))) (fun _ hk => hk.2) (.bool true)) (fun _ hk => hk.2) (.int .i64 ((rd_T67 x190001_5 (ji29)).f1))) (fun _ hk => ⟨hk.1.1.2, hk.1.2⟩)))⟩; have n1_ : Aside0 (w53.heap[gb187]? = some (.cells #[.int .i64 a0_0, .slice A0_1 l0_1.length c0_1] 24 (0, 0))) := ⟨(by rw [hw]; exact (by (with_reducible repeat (first | refine blk_drewN ?_ _ | refine blk_drew ?_ | refine blk_alloc ?_ _)); refine blk_far ?_ NB187_198.out _; (with_reducible repeat (first | refine blk_drewN ?_ _ | refine blk_drew ?_ | refine blk_alloc ?_ _)); refine blk_far ?_ NB187_198.out _; (with_reducible repeat (first | refine blk_drewN ?_ _ | refine blk_drew ?_ | refine blk_alloc ?_ _)); exact BK187.out))⟩; have n2_ : Aside0 (w53.heap[gb188]? = some (.cells #[.int .i64 0, .slice none 0 0] 24 (0, 0))) := ⟨(by rw [hw]; exact (by (with_reducible repeat (first | refine blk_drewN ?_ _ | refine blk_drew ?_ | refine blk_alloc ?_ _)); refine blk_far ?_ NB188_198.out _; (with_reducible repeat (first | refine blk_drewN ?_ _ | refine blk_drew ?_ | refine blk_alloc ?_ _)); refine blk_far ?_ NB188_198.out _; (with_reducible repeat (first | refine blk_drewN ?_ _ | refine blk_drew ?_ | refine blk_alloc ?_ _)); exact BK188.out))⟩; have n3_ : Aside0 (w53.heap[gb189]? = some (.cells #[.int .i64 a0_0, .slice (some ad195) x190001_5.length co40] 24 (0, 0))) := ⟨(by rw [hw]; exact (by (with_reducible repeat (first | refine blk_drewN ?_ _ | refine blk_drew ?_ | refine blk_alloc ?_ _)); refine blk_far ?_ NB189_198.out _; (with_reducible repeat (first | refine blk_drewN ?_ _ | refine blk_drew ?_ | refine blk_alloc ?_ _)); refine blk_far ?_ NB189_198.out _; (with_reducible repeat (first | refine blk_drewN ?_ _ | refine blk_drew ?_ | refine blk_alloc ?_ _)); exact BK189.out))⟩; have n4_ : Aside0 (w53.heap[gb196]? = some (.cells #[.bool true, .int .i64 ((rd_T67 x190001_5 (ji26)).f1)] 67 (0, 0))) := ⟨(by rw [hw]; exact (by (with_reducible repeat (first | refine blk_drewN ?_ _ | refine blk_drew ?_ | refine blk_alloc ?_ _)); refine blk_far ?_ NB196_198.out _; (with_reducible repeat (first | refine blk_drewN ?_ _ | refine blk_drew ?_ | refine blk_alloc ?_ _)); refine blk_far ?_ NB196_198.out _; (with_reducible repeat (first | refine blk_drewN ?_ _ | refine blk_drew ?_ | refine blk_alloc ?_ _)); exact BK196.out))⟩; have n5_ : Aside0 (w53.heap[gb198]? = some (.cells #[.bool true, .int .i64 ((rd_T67 x190001_5 (ji29)).f1)] 67 (0, 0))) := ⟨(by rw [hw]; exact (by (with_reducible repeat (first | refine blk_drewN ?_ _ | refine blk_drew ?_ | refine blk_alloc ?_ _)); refine blk_put (cs := #[.bool true, .int .i64 0]) ?_ 1 _ rfl; (with_reducible repeat (first | refine blk_drewN ?_ _ | refine blk_drew ?_ | refine blk_alloc ?_ _)); refine blk_put (cs := #[.bool false, .int .i64 0]) ?_ 0 _ rfl; (with_reducible repeat (first | refine blk_drewN ?_ _ | refine blk_drew ?_ | refine blk_alloc ?_ _)); exact BK198.out))⟩; have n6_ : Aside0 (Below w.heap.size w w53) := ⟨(by rw [hw]; exact pw)⟩; clear hw; clear HO_190001; clear BK187; clear BK188; clear BK189; clear BK196; clear BK198; clear HB; have HO_190001 := n0_; have BK187 := n1_; have BK188 := n2_; have BK189 := n3_; have BK196 := n4_; have BK198 := n5_; have HB := n6_; clear n0_ n1_ n2_ n3_ n4_ n5_ n6_; have hcz54_0 : w53.cell? ⟨gb196, 0, none⟩ = some (.bool true) := bc BK196 0; have hcz54_1 : w53.cell? ⟨gb196, 1, none⟩ = some (.int .i64 ((rd_T67 x190001_5 (ji26)).f1)) := bc BK196 1; have hfz54_0 := blk_frozen BK196.out 0; have hfz54_1 := blk_frozen BK196.out 1; have hcz55_0 : w53.cell? ⟨gb198, 0, none⟩ = some (.bool true) := bc BK198 0; have hcz55_1 : w53.cell? ⟨gb198, 1, none⟩ = some (.int .i64 ((rd_T67 x190001_5 (ji29)).f1)) := bc BK198 1; have hfz55_0 := blk_frozen BK198.out 0; have hfz55_1 := blk_frozen BK198.out 1; have hcz56_0 : w53.cell? ⟨gb189, 0, none⟩ = some (.int .i64 a0_0) := bc BK189 0; have hcz56_1 : w53.cell? ⟨gb189, 1, none⟩ = some (.slice (some ad195) x190001_5.length co40) := bc BK189 1; have hfz56_0 := blk_frozen BK189.out 0; have hfz56_1 := blk_frozen BK189.out 1) | ((with_reducible refine gate_callee (f := 90) rfl ?_); refine goesL_ (some 95) rfl rfl Tryd.func90 kk rfl #[.slice (some ad195) x190001_5.length co40, .int .i64 (wrap64 ((wrap64 (x8_3 * (wrap64 (a0_0 + 1)))) + x9_4)), .int .i64 (wrap64 (((rd_T67 x190001_5 (ji26)).f1) + ((rd_T67 x190001_5 (ji29)).f1)))] rfl (by (try simp only [List.map_toArray, List.map_cons, List.map_nil]); first | done | (simp only [hji26, hji29]; rfl) | rfl | (simp only [List.length_drop, List.length_take]; rfl)) ?_; (with_reducible refine (R2_lower.calls (fun k_ => some k_ = (.slice (some ad195) x190001_5.length co40 : Value).ownBlock) (.slice (some ad195) x190001_5.length co40) x190001_5 (wrap64 ((wrap64 (x8_3 * (wrap64 (a0_0 + 1)))) + x9_4)) (wrap64 (((rd_T67 x190001_5 (ji26)).f1) + ((rd_T67 x190001_5 (ji29)).f1))) t199 t200 w _ ?side1 ?side2 A36.out).mono ?_); (case side1 => repeat (first | (with_reducible first | exact HB.out | apply below_alloc | apply pw_below_drewN | apply below_drew1 | refine below_set ?_ GE187.out | refine below_set ?_ GE188.out | refine below_set ?_ GE189.out | refine below_set ?_ GE196.out | refine below_set ?_ GE198.out) | exact HB.out)); (case side2 => exact Kd.R_tight rfl HO_190001.out); rintro e w57 ⟨rfl, hy0, hb, hkp⟩; refine ⟨_, rfl, ?_⟩; have n0_ := am (Kd.R_reok rfl hy0 (fun k_ e_ => HO_190001.out.1 k_ e_)); have n1_ := am (blk_kept pk hkp (fun hs_ => (fun e_ => (Kd.R_ne HO_190001.out BK187.out (by decide)) e_) hs_)); have n2_ := am (blk_kept pk hkp (fun hs_ => (fun e_ => (Kd.R_ne HO_190001.out BK188.out (by decide)) e_) hs_)); have n3_ := am (blk_kept pk hkp (fun hs_ => (fun e_ => (Kd.R_ne HO_190001.out BK189.out (by decide)) e_) hs_)); have n4_ := am (blk_kept pk hkp (fun hs_ => (fun e_ => (Kd.R_away HO_190001.out (fun _ hk => hk.1)) e_) hs_)); have n5_ := am (blk_kept pk hkp (fun hs_ => (fun e_ => (Kd.R_away HO_190001.out (fun _ hk => hk.2)) e_) hs_)); have n6_ := am (hb); clear HO_190001; clear BK187; clear BK188; clear BK189; clear BK196; clear BK198; clear HB; have HO_190001 := n0_; have BK187 := n1_; have BK188 := n2_; have BK189 := n3_; have BK196 := n4_; have BK198 := n5_; have HB := n6_; clear n0_ n1_ n2_ n3_ n4_ n5_ n6_; (try clear hb); (try clear hkp); (try clear hy0)))
                      go_roundg k5
                      case measure => have := HK1.out; have := HK2.out; have := HK3.out; have := HK4.out; have := HK5.out; omega
                      case rel => exact ⟨(wrap64 (x10_5 + 1)), (t200), (.slice (some ad195) x190001_5.length co40), pr, H', ⟨by have := HK1.out; have := HK2.out; have := HK3.out; have := HK4.out; have := HK5.out; omega⟩, ⟨by (with_reducible repeat (first | apply Kd.R_alloc | apply Kd.R_drewN | apply Kd.R_drew)); exact Kd.R_mono HO_190001.out (fun _ hk => trivial)⟩, ⟨pk⟩, ⟨pk⟩, ⟨pk⟩, ⟨pw⟩⟩
                     replace c35 := Bool.eq_false_iff.mpr c35
                     subst c35
                     have H1 : (R2_ClosedZone.l4 k5 (wrap64 (a0_0 + 1)) x7_2 x8_3 x9_4 (wrap64 (x10_5 + 1)) a0_0 x190001_5) = some (r1, r2, r3) := by rw [if_neg (show ¬ (false = true) by decide)] at H; exact H
                     clear H
                     have H := H1
                     clear H1
                     have H' := am H
                     clear H
                     have hnb58 := NB189_187.out
                     have hnc58 := NB187_189.out
                     have hnb59 := NB189_188.out
                     have hnc59 := NB188_189.out
                     have hcz60_0 : wr.cell? ⟨gb189, 0, none⟩ = some (.int .i64 a0_0) := bc BK189 0
                     have hcz60_1 : wr.cell? ⟨gb189, 1, none⟩ = some (u190001) := bc BK189 1
                     have hfz60_0 := blk_frozen BK189.out 0
                     have hfz60_1 := blk_frozen BK189.out 1
                     obtain ⟨Ao61, co61, eo61⟩ := Kd.R_slice HO_190001.out
                     subst eo61
                     have p195 : 0 ≤ ((ji26) : Int) := of_decide_eq_true (by first | (with_reducible assumption) | assumption)
                     have q195 : (ji26) < (x190001_5.length : Int) := of_decide_eq_true (by first | (with_reducible assumption) | assumption)
                     obtain ⟨ad195, e195, hx195_0, hx195_1⟩ := at_T67 (Kd.R_reads' HO_190001.out).2.2 (ji26) p195 q195
                     (try rw [← Nbq32.out] at hx195_0)
                     (try rw [← Nbq34.out] at hx195_0)
                     cases e195
                     replace p195 := eq_true p195
                     replace q195 := eq_true q195
                     go_wp2_with (first | ((with_reducible refine gate_dst (N := 11) rfl ?_); refine box_event ?hg (N := 11) ?hd (cs := #[.bool false, .int .i64 0]) (t := 67) ?hr ?_; (case hd => rfl); (case hg => rfl); (case hr => first | (go_simp; done) | (go_simp; rfl)); intro gb196 hg w62 hbox hb; have n0_ := am (Kd.R_below (Kd.R_elderB (by (with_reducible repeat (first | apply Kd.R_alloc | apply Kd.R_drewN | apply Kd.R_drew)); exact HO_190001.out) gb196 (Nat.le_of_eq hg.symm)) hb); have n1_ := bb BK187 hb; have n2_ := bb BK188 hb; have n3_ := bb BK189 hb; have n4_ := am (below_step pw hb); have n5_ := am (hbox); have n6_ := am ((by rw [hg]; exact (below_size pw) : w.heap.size ≤ gb196)); have n7_ := am ((by rw [hg]; exact (below_size pw) : w.heap.size ≤ gb196)); have n8_ := am ((by rw [hg]; exact Nat.ne_of_lt (blk_lt pk) : gb187 ≠ gb196)); have n9_ := am ((by rw [hg]; exact Nat.ne_of_gt (blk_lt pk) : gb196 ≠ gb187)); have n10_ := am ((by rw [hg]; exact Nat.ne_of_lt (blk_lt pk) : gb188 ≠ gb196)); have n11_ := am ((by rw [hg]; exact Nat.ne_of_gt (blk_lt pk) : gb196 ≠ gb188)); have n12_ := am ((by rw [hg]; exact Nat.ne_of_lt (blk_lt pk) : gb189 ≠ gb196)); have n13_ := am ((by rw [hg]; exact Nat.ne_of_gt (blk_lt pk) : gb196 ≠ gb189)); clear HO_190001; clear BK187; clear BK188; clear BK189; clear HB; have HO_190001 := n0_; have BK187 := n1_; have BK188 := n2_; have BK189 := n3_; have HB := n4_; have BK196 := n5_; have GW196 := n6_; have GE196 := n7_; have NB187_196 := n8_; have NB196_187 := n9_; have NB188_196 := n10_; have NB196_188 := n11_; have NB189_196 := n12_; have NB196_189 := n13_; clear n0_ n1_ n2_ n3_ n4_ n5_ n6_ n7_ n8_ n9_ n10_ n11_ n12_ n13_; clear hb hbox hg; have hnb63 := NB196_187.out; have hnc63 := NB187_196.out; have hnb64 := NB196_188.out; have hnc64 := NB188_196.out; have hnb65 := NB196_189.out; have hnc65 := NB189_196.out; have hcz66_0 : w62.cell? ⟨gb196, 0, none⟩ = some (.bool false) := bc BK196 0; have hcz66_1 : w62.cell? ⟨gb196, 1, none⟩ = some (.int .i64 0) := bc BK196 1; have hfz66_0 := blk_frozen BK196.out 0; have hfz66_1 := blk_frozen BK196.out 1; have hcz67_0 : w62.cell? ⟨gb189, 0, none⟩ = some (.int .i64 a0_0) := bc BK189 0; have hcz67_1 : w62.cell? ⟨gb189, 1, none⟩ = some (.slice (some ad195) x190001_5.length co61) := bc BK189 1; have hfz67_0 := blk_frozen BK189.out 0; have hfz67_1 := blk_frozen BK189.out 1; have p197 : 0 ≤ ((ji29) : Int) := of_decide_eq_true (by first | (with_reducible assumption) | assumption); have q197 : (ji29) < (x190001_5.length : Int) := of_decide_eq_true (by first | (with_reducible assumption) | assumption); obtain ⟨ad197, e197, hx197_0, hx197_1⟩ := at_T67 (Kd.R_reads' HO_190001.out).2.2 (ji29) p197 q197; (try rw [← Nbq32.out] at hx197_0); (try rw [← Nbq34.out] at hx197_0); obtain rfl : ad195 = ad197 := (by injection e197); have hn197_0 : ad195.block ≠ gb196 := Kd.own_blk (Kd.R_away HO_190001.out (fun _ hk => hk.2)); have hn197_1 : ad195.block ≠ gb196 := Kd.own_blk (Kd.R_away HO_190001.out (fun _ hk => hk.2)); replace hx197_0 := (cell_far (p := ⟨gb196, 0, none⟩) (by first | (rw [add_block]; exact hn197_0) | (show (Addr.add _ _).block ≠ _; rw [add_block]; exact hn197_0) | exact hn197_0) (.bool true)).trans hx197_0; replace hx197_1 := (cell_far (p := ⟨gb196, 0, none⟩) (by first | (rw [add_block]; exact hn197_0) | (show (Addr.add _ _).block ≠ _; rw [add_block]; exact hn197_0) | exact hn197_0) (.bool true)).trans hx197_1; replace hx197_0 := (cell_far (p := ⟨gb196, 1, none⟩) (by first | (rw [add_block]; exact hn197_1) | (show (Addr.add _ _).block ≠ _; rw [add_block]; exact hn197_1) | exact hn197_1) (.int .i64 ((rd_T67 x190001_5 (ji26)).f1))).trans hx197_0; replace hx197_1 := (cell_far (p := ⟨gb196, 1, none⟩) (by first | (rw [add_block]; exact hn197_1) | (show (Addr.add _ _).block ≠ _; rw [add_block]; exact hn197_1) | exact hn197_1) (.int .i64 ((rd_T67 x190001_5 (ji26)).f1))).trans hx197_1; clear hn197_0; clear hn197_1; replace p197 := eq_true p197; replace q197 := eq_true q197) | ((with_reducible refine gate_dst (N := 12) rfl ?_); refine box_event ?hg (N := 12) ?hd (cs := #[.bool false, .int .i64 0]) (t := 67) ?hr ?_; (case hd => rfl); (case hg => rfl); (case hr => first | (go_simp; done) | (go_simp; rfl)); intro gb198 hg w68 hbox hb; have n0_ := am (Kd.R_below (Kd.R_elderB (by (with_reducible repeat (first | apply Kd.R_alloc | apply Kd.R_drewN | apply Kd.R_drew)); exact (Kd.R_mono (Kd.R_far (p := ⟨gb196, 1, none⟩) (Kd.R_far (p := ⟨gb196, 0, none⟩) (Kd.R_mono HO_190001.out (fun k_ hk => (⟨hk, hk.2⟩ : _ ∧ k_ ≠ gb196))) (fun _ hk => hk.2) (.bool true)) (fun _ hk => hk.2) (.int .i64 ((rd_T67 x190001_5 (ji26)).f1))) (fun _ h_ => h_.1))) gb198 (Nat.le_of_eq hg.symm)) hb); have n1_ := am (blk_below (g := gb187) (o := .cells #[.int .i64 a0_0, .slice A0_1 l0_1.length c0_1] 24 (0, 0)) (by (with_reducible repeat (first | refine blk_drewN ?_ _ | refine blk_drew ?_ | refine blk_alloc ?_ _)); refine blk_far ?_ NB187_196.out _; (with_reducible repeat (first | refine blk_drewN ?_ _ | refine blk_drew ?_ | refine blk_alloc ?_ _)); refine blk_far ?_ NB187_196.out _; (with_reducible repeat (first | refine blk_drewN ?_ _ | refine blk_drew ?_ | refine blk_alloc ?_ _)); exact BK187.out) hb); have n2_ := am (blk_below (g := gb188) (o := .cells #[.int .i64 0, .slice none 0 0] 24 (0, 0)) (by (with_reducible repeat (first | refine blk_drewN ?_ _ | refine blk_drew ?_ | refine blk_alloc ?_ _)); refine blk_far ?_ NB188_196.out _; (with_reducible repeat (first | refine blk_drewN ?_ _ | refine blk_drew ?_ | refine blk_alloc ?_ _)); refine blk_far ?_ NB188_196.out _; (with_reducible repeat (first | refine blk_drewN ?_ _ | refine blk_drew ?_ | refine blk_alloc ?_ _)); exact BK188.out) hb); have n3_ := am (blk_below (g := gb189) (o := .cells #[.int .i64 a0_0, .slice (some ad195) x190001_5.length co61] 24 (0, 0)) (by (with_reducible repeat (first | refine blk_drewN ?_ _ | refine blk_drew ?_ | refine blk_alloc ?_ _)); refine blk_far ?_ NB189_196.out _; (with_reducible repeat (first | refine blk_drewN ?_ _ | refine blk_drew ?_ | refine blk_alloc ?_ _)); refine blk_far ?_ NB189_196.out _; (with_reducible repeat (first | refine blk_drewN ?_ _ | refine blk_drew ?_ | refine blk_alloc ?_ _)); exact BK189.out) hb); have n4_ := am (blk_below (g := gb196) (o := .cells #[.bool true, .int .i64 ((rd_T67 x190001_5 (ji26)).f1)] 67 (0, 0)) (by (with_reducible repeat (first | refine blk_drewN ?_ _ | refine blk_drew ?_ | refine blk_alloc ?_ _)); refine blk_put (cs := #[.bool true, .int .i64 0]) ?_ 1 _ rfl; (with_reducible repeat (first | refine blk_drewN ?_ _ | refine blk_drew ?_ | refine blk_alloc ?_ _)); refine blk_put (cs := #[.bool false, .int .i64 0]) ?_ 0 _ rfl; (with_reducible repeat (first | refine blk_drewN ?_ _ | refine blk_drew ?_ | refine blk_alloc ?_ _)); exact BK196.out) hb); have n5_ := am (below_step pw hb); have n6_ := am (hbox); have n7_ := am ((by rw [hg]; exact (below_size pw) : w.heap.size ≤ gb198)); have n8_ := am ((by rw [hg]; exact (below_size pw) : w.heap.size ≤ gb198)); have n9_ := am ((by rw [hg]; exact Nat.ne_of_lt (blk_lt (g := gb187) (o := .cells #[.int .i64 a0_0, .slice A0_1 l0_1.length c0_1] 24 (0, 0)) (by (with_reducible repeat (first | refine blk_drewN ?_ _ | refine blk_drew ?_ | refine blk_alloc ?_ _)); refine blk_far ?_ NB187_196.out _; (with_reducible repeat (first | refine blk_drewN ?_ _ | refine blk_drew ?_ | refine blk_alloc ?_ _)); refine blk_far ?_ NB187_196.out _; (with_reducible repeat (first | refine blk_drewN ?_ _ | refine blk_drew ?_ | refine blk_alloc ?_ _)); exact BK187.out)) : gb187 ≠ gb198)); have n10_ := am ((by rw [hg]; exact Nat.ne_of_gt (blk_lt (g := gb187) (o := .cells #[.int .i64 a0_0, .slice A0_1 l0_1.length c0_1] 24 (0, 0)) (by (with_reducible repeat (first | refine blk_drewN ?_ _ | refine blk_drew ?_ | refine blk_alloc ?_ _)); refine blk_far ?_ NB187_196.out _; (with_reducible repeat (first | refine blk_drewN ?_ _ | refine blk_drew ?_ | refine blk_alloc ?_ _)); refine blk_far ?_ NB187_196.out _; (with_reducible repeat (first | refine blk_drewN ?_ _ | refine blk_drew ?_ | refine blk_alloc ?_ _)); exact BK187.out)) : gb198 ≠ gb187)); have n11_ := am ((by rw [hg]; exact Nat.ne_of_lt (blk_lt (g := gb188) (o := .cells #[.int .i64 0, .slice none 0 0] 24 (0, 0)) (by (with_reducible repeat (first | refine blk_drewN ?_ _ | refine blk_drew ?_ | refine blk_alloc ?_ _)); refine blk_far ?_ NB188_196.out _; (with_reducible repeat (first | refine blk_drewN ?_ _ | refine blk_drew ?_ | refine blk_alloc ?_ _)); refine blk_far ?_ NB188_196.out _; (with_reducible repeat (first | refine blk_drewN ?_ _ | refine blk_drew ?_ | refine blk_alloc ?_ _)); exact BK188.out)) : gb188 ≠ gb198)); have n12_ := am ((by rw [hg]; exact Nat.ne_of_gt (blk_lt (g := gb188) (o := .cells #[.int .i64 0, .slice none 0 0] 24 (0, 0)) (by (with_reducible repeat (first | refine blk_drewN ?_ _ | refine blk_drew ?_ | refine blk_alloc ?_ _)); refine blk_far ?_ NB188_196.out _; (with_reducible repeat (first | refine blk_drewN ?_ _ | refine blk_drew ?_ | refine blk_alloc ?_ _)); refine blk_far ?_ NB188_196.out _; (with_reducible repeat (first | refine blk_drewN ?_ _ | refine blk_drew ?_ | refine blk_alloc ?_ _)); exact BK188.out)) : gb198 ≠ gb188)); have n13_ := am ((by rw [hg]; exact Nat.ne_of_lt (blk_lt (g := gb189) (o := .cells #[.int .i64 a0_0, .slice (some ad195) x190001_5.length co61] 24 (0, 0)) (by (with_reducible repeat (first | refine blk_drewN ?_ _ | refine blk_drew ?_ | refine blk_alloc ?_ _)); refine blk_far ?_ NB189_196.out _; (with_reducible repeat (first | refine blk_drewN ?_ _ | refine blk_drew ?_ | refine blk_alloc ?_ _)); refine blk_far ?_ NB189_196.out _; (with_reducible repeat (first | refine blk_drewN ?_ _ | refine blk_drew ?_ | refine blk_alloc ?_ _)); exact BK189.out)) : gb189 ≠ gb198)); have n14_ := am ((by rw [hg]; exact Nat.ne_of_gt (blk_lt (g := gb189) (o := .cells #[.int .i64 a0_0, .slice (some ad195) x190001_5.length co61] 24 (0, 0)) (by (with_reducible repeat (first | refine blk_drewN ?_ _ | refine blk_drew ?_ | refine blk_alloc ?_ _)); refine blk_far ?_ NB189_196.out _; (with_reducible repeat (first | refine blk_drewN ?_ _ | refine blk_drew ?_ | refine blk_alloc ?_ _)); refine blk_far ?_ NB189_196.out _; (with_reducible repeat (first | refine blk_drewN ?_ _ | refine blk_drew ?_ | refine blk_alloc ?_ _)); exact BK189.out)) : gb198 ≠ gb189)); have n15_ := am ((by rw [hg]; exact Nat.ne_of_lt (blk_lt (g := gb196) (o := .cells #[.bool true, .int .i64 ((rd_T67 x190001_5 (ji26)).f1)] 67 (0, 0)) (by (with_reducible repeat (first | refine blk_drewN ?_ _ | refine blk_drew ?_ | refine blk_alloc ?_ _)); refine blk_put (cs := #[.bool true, .int .i64 0]) ?_ 1 _ rfl; (with_reducible repeat (first | refine blk_drewN ?_ _ | refine blk_drew ?_ | refine blk_alloc ?_ _)); refine blk_put (cs := #[.bool false, .int .i64 0]) ?_ 0 _ rfl; (with_reducible repeat (first | refine blk_drewN ?_ _ | refine blk_drew ?_ | refine blk_alloc ?_ _)); exact BK196.out)) : gb196 ≠ gb198)); have n16_ := am ((by rw [hg]; exact Nat.ne_of_gt (blk_lt (g := gb196) (o := .cells #[.bool true, .int .i64 ((rd_T67 x190001_5 (ji26)).f1)] 67 (0, 0)) (by (with_reducible repeat (first | refine blk_drewN ?_ _ | refine blk_drew ?_ | refine blk_alloc ?_ _)); refine blk_put (cs := #[.bool true, .int .i64 0]) ?_ 1 _ rfl; (with_reducible repeat (first | refine blk_drewN ?_ _ | refine blk_drew ?_ | refine blk_alloc ?_ _)); refine blk_put (cs := #[.bool false, .int .i64 0]) ?_ 0 _ rfl; (with_reducible repeat (first | refine blk_drewN ?_ _ | refine blk_drew ?_ | refine blk_alloc ?_ _)); exact BK196.out)) : gb198 ≠ gb196)); clear HO_190001; clear BK187; clear BK188; clear BK189; clear BK196; clear HB; have HO_190001 := n0_; have BK187 := n1_; have BK188 := n2_; have BK189 := n3_; have BK196 := n4_; have HB := n5_; have BK198 := n6_; have GW198 := n7_; have GE198 := n8_; have NB187_198 := n9_; have NB198_187 := n10_; have NB188_198 := n11_; have NB198_188 := n12_; have NB189_198 := n13_; have NB198_189 := n14_; have NB196_198 := n15_; have NB198_196 := n16_; clear n0_ n1_ n2_ n3_ n4_ n5_ n6_ n7_ n8_ n9_ n10_ n11_ n12_ n13_ n14_ n15_ n16_; clear hb hbox hg; have hnb69 := NB198_187.out; have hnc69 := NB187_198.out; have hnb70 := NB198_188.out; have hnc70 := NB188_198.out; have hnb71 := NB198_189.out; have hnc71 := NB189_198.out; have hnb72 := NB198_196.out; have hnc72 := NB196_198.out; have hcz73_0 : w68.cell? ⟨gb198, 0, none⟩ = some (.bool false) := bc BK198 0; have hcz73_1 : w68.cell? ⟨gb198, 1, none⟩ = some (.int .i64 0) := bc BK198 1; have hfz73_0 := blk_frozen BK198.out 0; have hfz73_1 := blk_frozen BK198.out 1; have hcz74_0 : w68.cell? ⟨gb196, 0, none⟩ = some (.bool true) := bc BK196 0; have hcz74_1 : w68.cell? ⟨gb196, 1, none⟩ = some (.int .i64 ((rd_T67 x190001_5 (ji26)).f1)) := bc BK196 1; have hfz74_0 := blk_frozen BK196.out 0; have hfz74_1 := blk_frozen BK196.out 1))
                     go_roundg k5
                     case measure => have := HK1.out; have := HK2.out; have := HK3.out; have := HK4.out; have := HK5.out; omega
                     case rel => exact ⟨(wrap64 (x10_5 + 1)), (x190001_5), (.slice (some ad195) x190001_5.length co61), pr, H', ⟨by have := HK1.out; have := HK2.out; have := HK3.out; have := HK4.out; have := HK5.out; omega⟩, ⟨by (with_reducible repeat (first | apply Kd.R_alloc | apply Kd.R_drewN | apply Kd.R_drew)); exact Kd.R_mono (Kd.R_far (p := ⟨gb198, 1, none⟩) (Kd.R_far (p := ⟨gb198, 0, none⟩) (Kd.R_mono HO_190001.out (fun k_ hk => (⟨hk, hk.2⟩ : _ ∧ k_ ≠ gb198))) (fun _ hk => hk.2) (.bool false)) (fun _ hk => hk.2) (.int .i64 ((rd_T67 x190001_5 (ji29)).f1))) (fun _ hk => trivial)⟩, ⟨by (with_reducible repeat (first | refine blk_drewN ?_ _ | refine blk_drew ?_ | refine blk_alloc ?_ _)); refine blk_far ?_ NB187_198.out _; (with_reducible repeat (first | refine blk_drewN ?_ _ | refine blk_drew ?_ | refine blk_alloc ?_ _)); refine blk_far ?_ NB187_198.out _; (with_reducible repeat (first | refine blk_drewN ?_ _ | refine blk_drew ?_ | refine blk_alloc ?_ _)); exact BK187.out⟩, ⟨by (with_reducible repeat (first | refine blk_drewN ?_ _ | refine blk_drew ?_ | refine blk_alloc ?_ _)); refine blk_far ?_ NB188_198.out _; (with_reducible repeat (first | refine blk_drewN ?_ _ | refine blk_drew ?_ | refine blk_alloc ?_ _)); refine blk_far ?_ NB188_198.out _; (with_reducible repeat (first | refine blk_drewN ?_ _ | refine blk_drew ?_ | refine blk_alloc ?_ _)); exact BK188.out⟩, ⟨by (with_reducible repeat (first | refine blk_drewN ?_ _ | refine blk_drew ?_ | refine blk_alloc ?_ _)); refine blk_far ?_ NB189_198.out _; (with_reducible repeat (first | refine blk_drewN ?_ _ | refine blk_drew ?_ | refine blk_alloc ?_ _)); refine blk_far ?_ NB189_198.out _; (with_reducible repeat (first | refine blk_drewN ?_ _ | refine blk_drew ?_ | refine blk_alloc ?_ _)); exact BK189.out⟩, ⟨pw⟩⟩
                    replace c33 := Bool.eq_false_iff.mpr c33
                    subst c33
                    have H1 : (R2_ClosedZone.l4 k5 (wrap64 (a0_0 + 1)) x7_2 x8_3 x9_4 (wrap64 (x10_5 + 1)) a0_0 x190001_5) = some (r1, r2, r3) := by rw [if_neg (show ¬ (false = true) by decide)] at H; exact H
                    clear H
                    have H := H1
                    clear H1
                    have H' := am H
                    clear H
                    have hnb75 := NB189_187.out
                    have hnc75 := NB187_189.out
                    have hnb76 := NB189_188.out
                    have hnc76 := NB188_189.out
                    have hcz77_0 : wr.cell? ⟨gb189, 0, none⟩ = some (.int .i64 a0_0) := bc BK189 0
                    have hcz77_1 : wr.cell? ⟨gb189, 1, none⟩ = some (u190001) := bc BK189 1
                    have hfz77_0 := blk_frozen BK189.out 0
                    have hfz77_1 := blk_frozen BK189.out 1
                    obtain ⟨Ao78, co78, eo78⟩ := Kd.R_slice HO_190001.out
                    subst eo78
                    have p195 : 0 ≤ ((ji26) : Int) := of_decide_eq_true (by first | (with_reducible assumption) | assumption)
                    have q195 : (ji26) < (x190001_5.length : Int) := of_decide_eq_true (by first | (with_reducible assumption) | assumption)
                    obtain ⟨ad195, e195, hx195_0, hx195_1⟩ := at_T67 (Kd.R_reads' HO_190001.out).2.2 (ji26) p195 q195
                    (try rw [← Nbq32.out] at hx195_0)
                    cases e195
                    replace p195 := eq_true p195
                    replace q195 := eq_true q195
                    go_wp2_with (first | ((with_reducible refine gate_dst (N := 11) rfl ?_); refine box_event ?hg (N := 11) ?hd (cs := #[.bool false, .int .i64 0]) (t := 67) ?hr ?_; (case hd => rfl); (case hg => rfl); (case hr => first | (go_simp; done) | (go_simp; rfl)); intro gb196 hg w79 hbox hb; have n0_ := am (Kd.R_below (Kd.R_elderB (by (with_reducible repeat (first | apply Kd.R_alloc | apply Kd.R_drewN | apply Kd.R_drew)); exact HO_190001.out) gb196 (Nat.le_of_eq hg.symm)) hb); have n1_ := bb BK187 hb; have n2_ := bb BK188 hb; have n3_ := bb BK189 hb; have n4_ := am (below_step pw hb); have n5_ := am (hbox); have n6_ := am ((by rw [hg]; exact (below_size pw) : w.heap.size ≤ gb196)); have n7_ := am ((by rw [hg]; exact (below_size pw) : w.heap.size ≤ gb196)); have n8_ := am ((by rw [hg]; exact Nat.ne_of_lt (blk_lt pk) : gb187 ≠ gb196)); have n9_ := am ((by rw [hg]; exact Nat.ne_of_gt (blk_lt pk) : gb196 ≠ gb187)); have n10_ := am ((by rw [hg]; exact Nat.ne_of_lt (blk_lt pk) : gb188 ≠ gb196)); have n11_ := am ((by rw [hg]; exact Nat.ne_of_gt (blk_lt pk) : gb196 ≠ gb188)); have n12_ := am ((by rw [hg]; exact Nat.ne_of_lt (blk_lt pk) : gb189 ≠ gb196)); have n13_ := am ((by rw [hg]; exact Nat.ne_of_gt (blk_lt pk) : gb196 ≠ gb189)); clear HO_190001; clear BK187; clear BK188; clear BK189; clear HB; have HO_190001 := n0_; have BK187 := n1_; have BK188 := n2_; have BK189 := n3_; have HB := n4_; have BK196 := n5_; have GW196 := n6_; have GE196 := n7_; have NB187_196 := n8_; have NB196_187 := n9_; have NB188_196 := n10_; have NB196_188 := n11_; have NB189_196 := n12_; have NB196_189 := n13_; clear n0_ n1_ n2_ n3_ n4_ n5_ n6_ n7_ n8_ n9_ n10_ n11_ n12_ n13_; clear hb hbox hg; have hnb80 := NB196_187.out; have hnc80 := NB187_196.out; have hnb81 := NB196_188.out; have hnc81 := NB188_196.out; have hnb82 := NB196_189.out; have hnc82 := NB189_196.out; have hcz83_0 : w79.cell? ⟨gb196, 0, none⟩ = some (.bool false) := bc BK196 0; have hcz83_1 : w79.cell? ⟨gb196, 1, none⟩ = some (.int .i64 0) := bc BK196 1; have hfz83_0 := blk_frozen BK196.out 0; have hfz83_1 := blk_frozen BK196.out 1; have hcz84_0 : w79.cell? ⟨gb189, 0, none⟩ = some (.int .i64 a0_0) := bc BK189 0; have hcz84_1 : w79.cell? ⟨gb189, 1, none⟩ = some (.slice (some ad195) x190001_5.length co78) := bc BK189 1; have hfz84_0 := blk_frozen BK189.out 0; have hfz84_1 := blk_frozen BK189.out 1; have p197 : 0 ≤ ((ji29) : Int) := of_decide_eq_true (by first | (with_reducible assumption) | assumption); have q197 : (ji29) < (x190001_5.length : Int) := of_decide_eq_true (by first | (with_reducible assumption) | assumption); obtain ⟨ad197, e197, hx197_0, hx197_1⟩ := at_T67 (Kd.R_reads' HO_190001.out).2.2 (ji29) p197 q197; (try rw [← Nbq32.out] at hx197_0); obtain rfl : ad195 = ad197 := (by injection e197); have hn197_0 : ad195.block ≠ gb196 := Kd.own_blk (Kd.R_away HO_190001.out (fun _ hk => hk.2)); have hn197_1 : ad195.block ≠ gb196 := Kd.own_blk (Kd.R_away HO_190001.out (fun _ hk => hk.2)); replace hx197_0 := (cell_far (p := ⟨gb196, 0, none⟩) (by first | (rw [add_block]; exact hn197_0) | (show (Addr.add _ _).block ≠ _; rw [add_block]; exact hn197_0) | exact hn197_0) (.bool false)).trans hx197_0; replace hx197_1 := (cell_far (p := ⟨gb196, 0, none⟩) (by first | (rw [add_block]; exact hn197_0) | (show (Addr.add _ _).block ≠ _; rw [add_block]; exact hn197_0) | exact hn197_0) (.bool false)).trans hx197_1; replace hx197_0 := (cell_far (p := ⟨gb196, 1, none⟩) (by first | (rw [add_block]; exact hn197_1) | (show (Addr.add _ _).block ≠ _; rw [add_block]; exact hn197_1) | exact hn197_1) (.int .i64 ((rd_T67 x190001_5 (ji26)).f1))).trans hx197_0; replace hx197_1 := (cell_far (p := ⟨gb196, 1, none⟩) (by first | (rw [add_block]; exact hn197_1) | (show (Addr.add _ _).block ≠ _; rw [add_block]; exact hn197_1) | exact hn197_1) (.int .i64 ((rd_T67 x190001_5 (ji26)).f1))).trans hx197_1; clear hn197_0; clear hn197_1; replace p197 := eq_true p197; replace q197 := eq_true q197) | ((with_reducible refine gate_dst (N := 12) rfl ?_); refine box_event ?hg (N := 12) ?hd (cs := #[.bool false, .int .i64 0]) (t := 67) ?hr ?_; (case hd => rfl); (case hg => rfl); (case hr => first | (go_simp; done) | (go_simp; rfl)); intro gb198 hg w85 hbox hb; have n0_ := am (Kd.R_below (Kd.R_elderB (by (with_reducible repeat (first | apply Kd.R_alloc | apply Kd.R_drewN | apply Kd.R_drew)); exact (Kd.R_mono (Kd.R_far (p := ⟨gb196, 1, none⟩) (Kd.R_far (p := ⟨gb196, 0, none⟩) (Kd.R_mono HO_190001.out (fun k_ hk => (⟨hk, hk.2⟩ : _ ∧ k_ ≠ gb196))) (fun _ hk => hk.2) (.bool false)) (fun _ hk => hk.2) (.int .i64 ((rd_T67 x190001_5 (ji26)).f1))) (fun _ h_ => h_.1))) gb198 (Nat.le_of_eq hg.symm)) hb); have n1_ := am (blk_below (g := gb187) (o := .cells #[.int .i64 a0_0, .slice A0_1 l0_1.length c0_1] 24 (0, 0)) (by (with_reducible repeat (first | refine blk_drewN ?_ _ | refine blk_drew ?_ | refine blk_alloc ?_ _)); refine blk_far ?_ NB187_196.out _; (with_reducible repeat (first | refine blk_drewN ?_ _ | refine blk_drew ?_ | refine blk_alloc ?_ _)); refine blk_far ?_ NB187_196.out _; (with_reducible repeat (first | refine blk_drewN ?_ _ | refine blk_drew ?_ | refine blk_alloc ?_ _)); exact BK187.out) hb); have n2_ := am (blk_below (g := gb188) (o := .cells #[.int .i64 0, .slice none 0 0] 24 (0, 0)) (by (with_reducible repeat (first | refine blk_drewN ?_ _ | refine blk_drew ?_ | refine blk_alloc ?_ _)); refine blk_far ?_ NB188_196.out _; (with_reducible repeat (first | refine blk_drewN ?_ _ | refine blk_drew ?_ | refine blk_alloc ?_ _)); refine blk_far ?_ NB188_196.out _; (with_reducible repeat (first | refine blk_drewN ?_ _ | refine blk_drew ?_ | refine blk_alloc ?_ _)); exact BK188.out) hb); have n3_ := am (blk_below (g := gb189) (o := .cells #[.int .i64 a0_0, .slice (some ad195) x190001_5.length co78] 24 (0, 0)) (by (with_reducible repeat (first | refine blk_drewN ?_ _ | refine blk_drew ?_ | refine blk_alloc ?_ _)); refine blk_far ?_ NB189_196.out _; (with_reducible repeat (first | refine blk_drewN ?_ _ | refine blk_drew ?_ | refine blk_alloc ?_ _)); refine blk_far ?_ NB189_196.out _; (with_reducible repeat (first | refine blk_drewN ?_ _ | refine blk_drew ?_ | refine blk_alloc ?_ _)); exact BK189.out) hb); have n4_ := am (blk_below (g := gb196) (o := .cells #[.bool false, .int .i64 ((rd_T67 x190001_5 (ji26)).f1)] 67 (0, 0)) (by (with_reducible repeat (first | refine blk_drewN ?_ _ | refine blk_drew ?_ | refine blk_alloc ?_ _)); refine blk_put (cs := #[.bool false, .int .i64 0]) ?_ 1 _ rfl; (with_reducible repeat (first | refine blk_drewN ?_ _ | refine blk_drew ?_ | refine blk_alloc ?_ _)); refine blk_put (cs := #[.bool false, .int .i64 0]) ?_ 0 _ rfl; (with_reducible repeat (first | refine blk_drewN ?_ _ | refine blk_drew ?_ | refine blk_alloc ?_ _)); exact BK196.out) hb); have n5_ := am (below_step pw hb); have n6_ := am (hbox); have n7_ := am ((by rw [hg]; exact (below_size pw) : w.heap.size ≤ gb198)); have n8_ := am ((by rw [hg]; exact (below_size pw) : w.heap.size ≤ gb198)); have n9_ := am ((by rw [hg]; exact Nat.ne_of_lt (blk_lt (g := gb187) (o := .cells #[.int .i64 a0_0, .slice A0_1 l0_1.length c0_1] 24 (0, 0)) (by (with_reducible repeat (first | refine blk_drewN ?_ _ | refine blk_drew ?_ | refine blk_alloc ?_ _)); refine blk_far ?_ NB187_196.out _; (with_reducible repeat (first | refine blk_drewN ?_ _ | refine blk_drew ?_ | refine blk_alloc ?_ _)); refine blk_far ?_ NB187_196.out _; (with_reducible repeat (first | refine blk_drewN ?_ _ | refine blk_drew ?_ | refine blk_alloc ?_ _)); exact BK187.out)) : gb187 ≠ gb198)); have n10_ := am ((by rw [hg]; exact Nat.ne_of_gt (blk_lt (g := gb187) (o := .cells #[.int .i64 a0_0, .slice A0_1 l0_1.length c0_1] 24 (0, 0)) (by (with_reducible repeat (first | refine blk_drewN ?_ _ | refine blk_drew ?_ | refine blk_alloc ?_ _)); refine blk_far ?_ NB187_196.out _; (with_reducible repeat (first | refine blk_drewN ?_ _ | refine blk_drew ?_ | refine blk_alloc ?_ _)); refine blk_far ?_ NB187_196.out _; (with_reducible repeat (first | refine blk_drewN ?_ _ | refine blk_drew ?_ | refine blk_alloc ?_ _)); exact BK187.out)) : gb198 ≠ gb187)); have n11_ := am ((by rw [hg]; exact Nat.ne_of_lt (blk_lt (g := gb188) (o := .cells #[.int .i64 0, .slice none 0 0] 24 (0, 0)) (by (with_reducible repeat (first | refine blk_drewN ?_ _ | refine blk_drew ?_ | refine blk_alloc ?_ _)); refine blk_far ?_ NB188_196.out _; (with_reducible repeat (first | refine blk_drewN ?_ _ | refine blk_drew ?_ | refine blk_alloc ?_ _)); refine blk_far ?_ NB188_196.out _; (with_reducible repeat (first | refine blk_drewN ?_ _ | refine blk_drew ?_ | refine blk_alloc ?_ _)); exact BK188.out)) : gb188 ≠ gb198)); have n12_ := am ((by rw [hg]; exact Nat.ne_of_gt (blk_lt (g := gb188) (o := .cells #[.int .i64 0, .slice none 0 0] 24 (0, 0)) (by (with_reducible repeat (first | refine blk_drewN ?_ _ | refine blk_drew ?_ | refine blk_alloc ?_ _)); refine blk_far ?_ NB188_196.out _; (with_reducible repeat (first | refine blk_drewN ?_ _ | refine blk_drew ?_ | refine blk_alloc ?_ _)); refine blk_far ?_ NB188_196.out _; (with_reducible repeat (first | refine blk_drewN ?_ _ | refine blk_drew ?_ | refine blk_alloc ?_ _)); exact BK188.out)) : gb198 ≠ gb188)); have n13_ := am ((by rw [hg]; exact Nat.ne_of_lt (blk_lt (g := gb189) (o := .cells #[.int .i64 a0_0, .slice (some ad195) x190001_5.length co78] 24 (0, 0)) (by (with_reducible repeat (first | refine blk_drewN ?_ _ | refine blk_drew ?_ | refine blk_alloc ?_ _)); refine blk_far ?_ NB189_196.out _; (with_reducible repeat (first | refine blk_drewN ?_ _ | refine blk_drew ?_ | refine blk_alloc ?_ _)); refine blk_far ?_ NB189_196.out _; (with_reducible repeat (first | refine blk_drewN ?_ _ | refine blk_drew ?_ | refine blk_alloc ?_ _)); exact BK189.out)) : gb189 ≠ gb198)); have n14_ := am ((by rw [hg]; exact Nat.ne_of_gt (blk_lt (g := gb189) (o := .cells #[.int .i64 a0_0, .slice (some ad195) x190001_5.length co78] 24 (0, 0)) (by (with_reducible repeat (first | refine blk_drewN ?_ _ | refine blk_drew ?_ | refine blk_alloc ?_ _)); refine blk_far ?_ NB189_196.out _; (with_reducible repeat (first | refine blk_drewN ?_ _ | refine blk_drew ?_ | refine blk_alloc ?_ _)); refine blk_far ?_ NB189_196.out _; (with_reducible repeat (first | refine blk_drewN ?_ _ | refine blk_drew ?_ | refine blk_alloc ?_ _)); exact BK189.out)) : gb198 ≠ gb189)); have n15_ := am ((by rw [hg]; exact Nat.ne_of_lt (blk_lt (g := gb196) (o := .cells #[.bool false, .int .i64 ((rd_T67 x190001_5 (ji26)).f1)] 67 (0, 0)) (by (with_reducible repeat (first | refine blk_drewN ?_ _ | refine blk_drew ?_ | refine blk_alloc ?_ _)); refine blk_put (cs := #[.bool false, .int .i64 0]) ?_ 1 _ rfl; (with_reducible repeat (first | refine blk_drewN ?_ _ | refine blk_drew ?_ | refine blk_alloc ?_ _)); refine blk_put (cs := #[.bool false, .int .i64 0]) ?_ 0 _ rfl; (with_reducible repeat (first | refine blk_drewN ?_ _ | refine blk_drew ?_ | refine blk_alloc ?_ _)); exact BK196.out)) : gb196 ≠ gb198)); have n16_ := am ((by rw [hg]; exact Nat.ne_of_gt (blk_lt (g := gb196) (o := .cells #[.bool false, .int .i64 ((rd_T67 x190001_5 (ji26)).f1)] 67 (0, 0)) (by (with_reducible repeat (first | refine blk_drewN ?_ _ | refine blk_drew ?_ | refine blk_alloc ?_ _)); refine blk_put (cs := #[.bool false, .int .i64 0]) ?_ 1 _ rfl; (with_reducible repeat (first | refine blk_drewN ?_ _ | refine blk_drew ?_ | refine blk_alloc ?_ _)); refine blk_put (cs := #[.bool false, .int .i64 0]) ?_ 0 _ rfl; (with_reducible repeat (first | refine blk_drewN ?_ _ | refine blk_drew ?_ | refine blk_alloc ?_ _)); exact BK196.out)) : gb198 ≠ gb196)); clear HO_190001; clear BK187; clear BK188; clear BK189; clear BK196; clear HB; have HO_190001 := n0_; have BK187 := n1_; have BK188 := n2_; have BK189 := n3_; have BK196 := n4_; have HB := n5_; have BK198 := n6_; have GW198 := n7_; have GE198 := n8_; have NB187_198 := n9_; have NB198_187 := n10_; have NB188_198 := n11_; have NB198_188 := n12_; have NB189_198 := n13_; have NB198_189 := n14_; have NB196_198 := n15_; have NB198_196 := n16_; clear n0_ n1_ n2_ n3_ n4_ n5_ n6_ n7_ n8_ n9_ n10_ n11_ n12_ n13_ n14_ n15_ n16_; clear hb hbox hg; have hnb86 := NB198_187.out; have hnc86 := NB187_198.out; have hnb87 := NB198_188.out; have hnc87 := NB188_198.out; have hnb88 := NB198_189.out; have hnc88 := NB189_198.out; have hnb89 := NB198_196.out; have hnc89 := NB196_198.out; have hcz90_0 : w85.cell? ⟨gb198, 0, none⟩ = some (.bool false) := bc BK198 0; have hcz90_1 : w85.cell? ⟨gb198, 1, none⟩ = some (.int .i64 0) := bc BK198 1; have hfz90_0 := blk_frozen BK198.out 0; have hfz90_1 := blk_frozen BK198.out 1; have hcz91_0 : w85.cell? ⟨gb196, 0, none⟩ = some (.bool false) := bc BK196 0; have hcz91_1 : w85.cell? ⟨gb196, 1, none⟩ = some (.int .i64 ((rd_T67 x190001_5 (ji26)).f1)) := bc BK196 1; have hfz91_0 := blk_frozen BK196.out 0; have hfz91_1 := blk_frozen BK196.out 1))
                    go_roundg k5
                    case measure => have := HK1.out; have := HK2.out; have := HK3.out; have := HK4.out; have := HK5.out; omega
                    case rel => exact ⟨(wrap64 (x10_5 + 1)), (x190001_5), (.slice (some ad195) x190001_5.length co78), pr, H', ⟨by have := HK1.out; have := HK2.out; have := HK3.out; have := HK4.out; have := HK5.out; omega⟩, ⟨by (with_reducible repeat (first | apply Kd.R_alloc | apply Kd.R_drewN | apply Kd.R_drew)); exact Kd.R_mono (Kd.R_far (p := ⟨gb198, 1, none⟩) (Kd.R_far (p := ⟨gb198, 0, none⟩) (Kd.R_mono HO_190001.out (fun k_ hk => (⟨hk, hk.2⟩ : _ ∧ k_ ≠ gb198))) (fun _ hk => hk.2) (.bool ((rd_T67 x190001_5 (ji29)).f0))) (fun _ hk => hk.2) (.int .i64 ((rd_T67 x190001_5 (ji29)).f1))) (fun _ hk => trivial)⟩, ⟨by (with_reducible repeat (first | refine blk_drewN ?_ _ | refine blk_drew ?_ | refine blk_alloc ?_ _)); refine blk_far ?_ NB187_198.out _; (with_reducible repeat (first | refine blk_drewN ?_ _ | refine blk_drew ?_ | refine blk_alloc ?_ _)); refine blk_far ?_ NB187_198.out _; (with_reducible repeat (first | refine blk_drewN ?_ _ | refine blk_drew ?_ | refine blk_alloc ?_ _)); exact BK187.out⟩, ⟨by (with_reducible repeat (first | refine blk_drewN ?_ _ | refine blk_drew ?_ | refine blk_alloc ?_ _)); refine blk_far ?_ NB188_198.out _; (with_reducible repeat (first | refine blk_drewN ?_ _ | refine blk_drew ?_ | refine blk_alloc ?_ _)); refine blk_far ?_ NB188_198.out _; (with_reducible repeat (first | refine blk_drewN ?_ _ | refine blk_drew ?_ | refine blk_alloc ?_ _)); exact BK188.out⟩, ⟨by (with_reducible repeat (first | refine blk_drewN ?_ _ | refine blk_drew ?_ | refine blk_alloc ?_ _)); refine blk_far ?_ NB189_198.out _; (with_reducible repeat (first | refine blk_drewN ?_ _ | refine blk_drew ?_ | refine blk_alloc ?_ _)); refine blk_far ?_ NB189_198.out _; (with_reducible repeat (first | refine blk_drewN ?_ _ | refine blk_drew ?_ | refine blk_alloc ?_ _)); exact BK189.out⟩, ⟨pw⟩⟩
                   rw [if_neg c31] at H
                   exact absurd H (by simp)
                  rw [if_neg c30] at H
                  exact absurd H (by simp)
                 rw [if_neg c28] at H
                 exact absurd H (by simp)
                rw [if_neg c27] at H
                exact absurd H (by simp)
               rw [if_neg c25] at H
               have c25b0 : decide (x10_5 < (wrap64 (a0_0 + 1))) = false := decide_eq_false c25
               clear c25
               have H' := am H
               clear H
               go_wp2
               go_roundg k5
               case measure => have := HK1.out; have := HK2.out; have := HK3.out; have := HK4.out; have := HK5.out; omega
               case rel => exact ⟨(wrap64 (x9_4 + 1)), (x190001_5), (u190001), pr, H', ⟨by have := HK1.out; have := HK2.out; have := HK3.out; have := HK4.out; have := HK5.out; omega⟩, ⟨by (with_reducible repeat (first | apply Kd.R_alloc | apply Kd.R_drewN | apply Kd.R_drew)); exact HO_190001.out⟩, ⟨pk⟩, ⟨pk⟩, ⟨pk⟩, ⟨pw⟩⟩
            rw [if_neg c24] at H
            have c24b0 : decide (x9_4 < (wrap64 (a0_0 + 1))) = false := decide_eq_false c24
            clear c24
            have H' := am H
            clear H
            go_wp2
            go_roundg k4
            case measure => have := HK1.out; have := HK2.out; have := HK3.out; have := HK4.out; omega
            case rel => exact ⟨(wrap64 (x8_3 + 1)), (x190001_4), (u190001), pr, H', ⟨by have := HK1.out; have := HK2.out; have := HK3.out; have := HK4.out; omega⟩, ⟨by (with_reducible repeat (first | apply Kd.R_alloc | apply Kd.R_drewN | apply Kd.R_drew)); exact HO_190001.out⟩, ⟨pk⟩, ⟨pk⟩, ⟨pk⟩, ⟨pw⟩⟩
         rw [if_neg c23] at H
         have c23b0 : decide (x8_3 < (wrap64 (a0_0 + 1))) = false := decide_eq_false c23
         clear c23
         have H' := am H
         clear H
         go_wp2
         go_roundg k3
         case measure => have := HK1.out; have := HK2.out; have := HK3.out; omega
         case rel => exact ⟨(wrap64 (x7_2 + 1)), (x190001_3), (u190001), pr, H', ⟨by have := HK1.out; have := HK2.out; have := HK3.out; omega⟩, ⟨by (with_reducible repeat (first | apply Kd.R_alloc | apply Kd.R_drewN | apply Kd.R_drew)); exact HO_190001.out⟩, ⟨pk⟩, ⟨pk⟩, ⟨pk⟩, ⟨pw⟩⟩
      rw [if_neg c22] at H
      have c22b0 : decide (x7_2 ≤ (wrap64 (a0_0 + 1))) = false := decide_eq_false c22
      clear c22
      have H' := am H
      clear H
      go_wp2
      go_loopg [13] k2 (fun kq v13 w' => ∃ (x13_3 : Int) (x189000_3 : Int), v13 = .int .i64 x13_3 ∧ Aside0 (R2_ClosedZone.l5 kq (wrap64 (a0_0 + 1)) x13_3 a0_0 x190001_2 = some (r1, r2, r3)) ∧ Aside0 (kq ≤ k2) ∧ Aside0 (Kd.R k67 67 w' w.heap.size (fun _ => True) u190001 x190001_2) ∧ Aside0 (w'.heap[gb187]? = some (.cells #[.int .i64 a0_0, (.slice A0_1 l0_1.length c0_1)] 24 (0, 0))) ∧ Aside0 (w'.heap[gb188]? = some (.cells #[.int .i64 x189000_3, (.slice none 0 0)] 24 (0, 0))) ∧ Aside0 (w'.heap[gb189]? = some (.cells #[.int .i64 a0_0, u190001] 24 (0, 0))) ∧ Aside0 (Below w.heap.size w w'))
      case atStart => exact ⟨(0), (0), pr, H', ⟨Nat.le_refl _⟩, ⟨by (with_reducible repeat (first | apply Kd.R_alloc | apply Kd.R_drewN | apply Kd.R_drew)); exact HO_190001.out⟩, ⟨pk⟩, ⟨pk⟩, ⟨pk⟩, ⟨pw⟩⟩
      case round =>
       clear H'
       try clear c1
       try clear p1
       try clear q1
       try clear hx1
       try clear c2
       try clear p2
       try clear c3
       try clear q3
       try clear c4
       try clear c5
       try clear c6
       try clear p6
       try clear c7
       try clear c8
       try clear c9
       try clear c15
       try clear c15b0
       try clear c17
       try clear c18
       try clear p19
       try clear q19
       try clear hx19
       try clear c22
       try clear c22b0
       try clear c23
       try clear c23b0
       try clear c24
       try clear c24b0
       try clear c25
       try clear c25b0
       try clear c26
       try clear c27
       try clear c27b0
       try clear c28
       try clear c28b0
       try clear c30
       try clear c30b0
       try clear c31
       try clear c31b0
       try clear q32
       try clear c33
       try clear q34
       try clear c35
       try clear c37
       try clear c38
       try clear c42
       try clear c43
       try clear c44
       try clear c48
       try clear c49
       try clear c50
       try clear c51
       try clear c58
       try clear c59
       try clear c63
       try clear c64
       try clear p64
       try clear c65
       try clear c69
       try clear c70
       try clear c71
       try clear c72
       try clear c75
       try clear c76
       try clear c80
       try clear c81
       try clear c82
       try clear c86
       try clear c87
       try clear c88
       try clear c89
       try clear c90
       try clear hcz10_0
       try clear hcz10_1
       try clear hcz11_0
       try clear hcz11_1
       try clear hcz14_0
       try clear hcz14_1
       try clear hcz19_0
       try clear hcz19_1
       try clear hcz39_0
       try clear hcz39_1
       try clear hcz45_0
       try clear hcz45_1
       try clear hcz46_0
       try clear hcz46_1
       try clear hcz52_0
       try clear hcz52_1
       try clear hcz54_0
       try clear hcz54_1
       try clear hcz55_0
       try clear hcz55_1
       try clear hcz56_0
       try clear hcz56_1
       try clear hcz60_0
       try clear hcz60_1
       try clear hcz66_0
       try clear hcz66_1
       try clear hcz67_0
       try clear hcz67_1
       try clear hcz6_0
       try clear hcz6_1
       try clear hcz73_0
       try clear hcz73_1
       try clear hcz74_0
       try clear hcz74_1
       try clear hcz77_0
       try clear hcz77_1
       try clear hcz83_0
       try clear hcz83_1
       try clear hcz84_0
       try clear hcz84_1
       try clear hcz90_0
       try clear hcz90_1
       try clear hcz91_0
       try clear hcz91_1
       try clear hfz10_0
       try clear hfz10_1
       try clear hfz11_0
       try clear hfz11_1
       try clear hfz14_0
       try clear hfz14_1
       try clear hfz19_0
       try clear hfz19_1
       try clear hfz39_0
       try clear hfz39_1
       try clear hfz45_0
       try clear hfz45_1
       try clear hfz46_0
       try clear hfz46_1
       try clear hfz52_0
       try clear hfz52_1
       try clear hfz54_0
       try clear hfz54_1
       try clear hfz55_0
       try clear hfz55_1
       try clear hfz56_0
       try clear hfz56_1
       try clear hfz60_0
       try clear hfz60_1
       try clear hfz66_0
       try clear hfz66_1
       try clear hfz67_0
       try clear hfz67_1
       try clear hfz6_0
       try clear hfz6_1
       try clear hfz73_0
       try clear hfz73_1
       try clear hfz74_0
       try clear hfz74_1
       try clear hfz77_0
       try clear hfz77_1
       try clear hfz83_0
       try clear hfz83_1
       try clear hfz84_0
       try clear hfz84_1
       try clear hfz90_0
       try clear hfz90_1
       try clear hfz91_0
       try clear hfz91_1
       try clear hx195_0
       try clear hx195_1
       try clear hx197_0
       try clear hx197_1
       try clear p195
       try clear p197
       try clear p2
       try clear p6
       try clear q195
       try clear q197
       obtain ⟨x13_3, x189000_3, rfl, HA, HK3, HO_190001, BK187, BK188, BK189, HB⟩ := hrel
       cases gk with
       | zero => exact absurd HA.out (by simp [R2_ClosedZone.l5])
       | succ k3 =>
        have H := HA.out
        clear HA
        simp only [R2_ClosedZone.l5] at H
        by_cases c92 : x13_3 < (wrap64 (a0_0 + 1))
        ·rw [if_pos c92] at H
         have c92b0 : decide (x13_3 < (wrap64 (a0_0 + 1))) = true := decide_eq_true c92
         clear c92
         obtain ⟨ji93, hji93⟩ : ∃ j_ : Int, (wrap64 ((wrap64 (x13_3 * (wrap64 (a0_0 + 1)))) + x13_3)) = j_ := ⟨_, rfl⟩
         replace H : (if 0 ≤ (ji93) then (if (ji93) < (x190001_2.length : Int) then (if ((rd_T67 x190001_2 (ji93)).f1) < 0 then (some (0, ([] : List (S67)), false)) else (R2_ClosedZone.l5 k3 (wrap64 (a0_0 + 1)) (wrap64 (x13_3 + 1)) a0_0 x190001_2)) else (none)) else (none)) = some (r1, r2, r3) := by first | (rw [hji93] at H; exact H) | (simp only [hji93] at H ⊢; exact H)
         have hji93w : (IntKind.i64.wrap ((wrap64 (x13_3 * (wrap64 (a0_0 + 1)))) + x13_3)) = ji93 := (i64_w _).trans hji93
         by_cases c94 : 0 ≤ (ji93)
         ·rw [if_pos c94] at H
          have c94b0 : decide (0 ≤ (ji93)) = true := decide_eq_true c94
          clear c94
          by_cases c95 : (ji93) < (x190001_2.length : Int)
          ·rw [if_pos c95] at H
           have c95b0 : decide ((ji93) < (x190001_2.length : Int)) = true := decide_eq_true c95
           clear c95
           by_cases c96 : ((rd_T67 x190001_2 (ji93)).f1) < 0
           ·rw [if_pos c96] at H
            have c96b0 : decide (((rd_T67 x190001_2 (ji93)).f1) < 0) = true := decide_eq_true c96
            clear c96
            simp only [Option.some.injEq, Prod.mk.injEq] at H
            obtain ⟨rfl, rfl, rfl⟩ := H
            have hnb97 := NB189_187.out
            have hnc97 := NB187_189.out
            have hnb98 := NB189_188.out
            have hnc98 := NB188_189.out
            have hcz99_0 : wr.cell? ⟨gb189, 0, none⟩ = some (.int .i64 a0_0) := bc BK189 0
            have hcz99_1 : wr.cell? ⟨gb189, 1, none⟩ = some (u190001) := bc BK189 1
            have hfz99_0 := blk_frozen BK189.out 0
            have hfz99_1 := blk_frozen BK189.out 1
            obtain ⟨Ao100, co100, eo100⟩ := Kd.R_slice HO_190001.out
            subst eo100
            have p201 : 0 ≤ ((ji93) : Int) := of_decide_eq_true (by first | (with_reducible assumption) | assumption)
            have q201 : (ji93) < (x190001_2.length : Int) := of_decide_eq_true (by first | (with_reducible assumption) | assumption)
            obtain ⟨ad201, e201, hx201_0, hx201_1⟩ := at_T67 (Kd.R_reads' HO_190001.out).2.2 (ji93) p201 q201
            cases e201
            replace p201 := eq_true p201
            replace q201 := eq_true q201
            have hnb101 := NB188_187.out
            have hnc101 := NB187_188.out
            have hcz102_0 : wr.cell? ⟨gb188, 0, none⟩ = some (.int .i64 x189000_3) := bc BK188 0
            have hcz102_1 : wr.cell? ⟨gb188, 1, none⟩ = some (.slice none 0 0) := bc BK188 1
            have hfz102_0 := blk_frozen BK188.out 0
            have hfz102_1 := blk_frozen BK188.out 1
            go_wp2
            refine bodyPost_ret (results_ct rfl _ _ gb188 24 #[.int .i64 0, .slice none 0 0] (0, 0) _ rfl (by (with_reducible repeat (first | refine blk_drewN ?_ _ | refine blk_drew ?_ | refine blk_alloc ?_ _)); refine blk_put (cs := #[.int .i64 0, .slice none 0 0]) ?_ 1 _ rfl; (with_reducible repeat (first | refine blk_drewN ?_ _ | refine blk_drew ?_ | refine blk_alloc ?_ _)); refine blk_put (cs := #[.int .i64 x189000_3, .slice none 0 0]) ?_ 0 _ rfl; (with_reducible repeat (first | refine blk_drewN ?_ _ | refine blk_drew ?_ | refine blk_alloc ?_ _)); exact BK188.out) Tryd.underlying24 rfl kk) rfl ?_
            exact ⟨_, by first | rfl | (simp [errW_none, errW_some] <;> rfl) | (simp only [← hji93]; first | rfl | (simp [errW_none, errW_some] <;> rfl)) | (simp [*, errW_none, errW_some] <;> rfl), by first | exact Kd.R_nil _ _ _ _ _ | exact Kd.N_nil _ _ _ _ _ | exact Kd.V_nil _ _ _ _ _ | exact Kd.Q_nil _ _ _ _ _ | exact Kd.S_nil _ _ _ _ _, pw⟩
           rw [if_neg c96] at H
           have c96b0 : decide (((rd_T67 x190001_2 (ji93)).f1) < 0) = false := decide_eq_false c96
           clear c96
           have H' := am H
           clear H
           have hnb103 := NB189_187.out
           have hnc103 := NB187_189.out
           have hnb104 := NB189_188.out
           have hnc104 := NB188_189.out
           have hcz105_0 : wr.cell? ⟨gb189, 0, none⟩ = some (.int .i64 a0_0) := bc BK189 0
           have hcz105_1 : wr.cell? ⟨gb189, 1, none⟩ = some (u190001) := bc BK189 1
           have hfz105_0 := blk_frozen BK189.out 0
           have hfz105_1 := blk_frozen BK189.out 1
           obtain ⟨Ao106, co106, eo106⟩ := Kd.R_slice HO_190001.out
           subst eo106
           have p201 : 0 ≤ ((ji93) : Int) := of_decide_eq_true (by first | (with_reducible assumption) | assumption)
           have q201 : (ji93) < (x190001_2.length : Int) := of_decide_eq_true (by first | (with_reducible assumption) | assumption)
           obtain ⟨ad201, e201, hx201_0, hx201_1⟩ := at_T67 (Kd.R_reads' HO_190001.out).2.2 (ji93) p201 q201
           cases e201
           replace p201 := eq_true p201
           replace q201 := eq_true q201
           go_wp2
           go_roundg k3
           case measure => have := HK1.out; have := HK2.out; have := HK3.out; omega
           case rel => exact ⟨(wrap64 (x13_3 + 1)), (x189000_3), pr, H', ⟨by have := HK1.out; have := HK2.out; have := HK3.out; omega⟩, ⟨by (with_reducible repeat (first | apply Kd.R_alloc | apply Kd.R_drewN | apply Kd.R_drew)); exact HO_190001.out⟩, ⟨pk⟩, ⟨pk⟩, ⟨pk⟩, ⟨pw⟩⟩
          rw [if_neg c95] at H
          exact absurd H (by simp)
         rw [if_neg c94] at H
         exact absurd H (by simp)
        rw [if_neg c92] at H
        have c92b0 : decide (x13_3 < (wrap64 (a0_0 + 1))) = false := decide_eq_false c92
        clear c92
        replace H := Option.bind_eq_some_iff.mp H
        obtain ⟨t202, A1070, H⟩ := H
        replace H : (some (a0_0, t202, true)) = some (r1, r2, r3) := H
        have A107 := am A1070
        clear A1070
        simp only [Option.some.injEq, Prod.mk.injEq] at H
        obtain ⟨rfl, rfl, rfl⟩ := H
        have hnb108 := NB189_187.out
        have hnc108 := NB187_189.out
        have hnb109 := NB189_188.out
        have hnc109 := NB188_189.out
        have hcz110_0 : wr.cell? ⟨gb189, 0, none⟩ = some (.int .i64 a0_0) := bc BK189 0
        have hcz110_1 : wr.cell? ⟨gb189, 1, none⟩ = some (u190001) := bc BK189 1
        have hfz110_0 := blk_frozen BK189.out 0
        have hfz110_1 := blk_frozen BK189.out 1
        obtain ⟨Ao111, co111, eo111⟩ := Kd.R_slice HO_190001.out
        subst eo111
        go_wp2_with (first | ((with_reducible refine gate_callee (f := 91) rfl ?_); refine goesL_ (some 115) rfl rfl Tryd.func91 kk rfl #[.slice Ao111 x190001_2.length co111] rfl (by (try simp only [List.map_toArray, List.map_cons, List.map_nil]); first | done | rfl | (simp only [List.length_drop, List.length_take]; rfl)) ?_; (with_reducible refine (R2_clip.calls k3 (fun k_ => some k_ = (.slice Ao111 x190001_2.length co111 : Value).ownBlock) (.slice Ao111 x190001_2.length co111) x190001_2 t202 w _ ?side1 ?side2 A107.out).mono ?_); (case side1 => repeat (first | (with_reducible first | exact HB.out | apply below_alloc | apply pw_below_drewN | apply below_drew1 | refine below_set ?_ GE187.out | refine below_set ?_ GE188.out | refine below_set ?_ GE189.out) | exact HB.out)); (case side2 => exact Kd.R_tight rfl HO_190001.out); rintro e w112 ⟨rfl, hy0, hb, hkp⟩; refine ⟨_, rfl, ?_⟩; have n0_ := am (Kd.R_reok rfl hy0 (fun k_ e_ => HO_190001.out.1 k_ e_)); have n1_ := am (blk_kept pk hkp (fun hs_ => (fun e_ => (Kd.R_ne HO_190001.out BK187.out (by decide)) e_) hs_)); have n2_ := am (blk_kept pk hkp (fun hs_ => (fun e_ => (Kd.R_ne HO_190001.out BK188.out (by decide)) e_) hs_)); have n3_ := am (blk_kept pk hkp (fun hs_ => (fun e_ => (Kd.R_ne HO_190001.out BK189.out (by decide)) e_) hs_)); have n4_ := am (hb); clear HO_190001; clear BK187; clear BK188; clear BK189; clear HB; have HO_190001 := n0_; have BK187 := n1_; have BK188 := n2_; have BK189 := n3_; have HB := n4_; clear n0_ n1_ n2_ n3_ n4_; (try clear hb); (try clear hkp); (try clear hy0); have hcz113_0 : w112.cell? ⟨gb189, 0, none⟩ = some (.int .i64 a0_0) := bc BK189 0; have hcz113_1 : w112.cell? ⟨gb189, 1, none⟩ = some (.slice Ao111 x190001_2.length co111) := bc BK189 1; have hfz113_0 := blk_frozen BK189.out 0; have hfz113_1 := blk_frozen BK189.out 1; have hnb114 := NB188_187.out; have hnc114 := NB187_188.out; have hcz115_0 : w112.cell? ⟨gb188, 0, none⟩ = some (.int .i64 x189000_3) := bc BK188 0; have hcz115_1 : w112.cell? ⟨gb188, 1, none⟩ = some (.slice none 0 0) := bc BK188 1; have hfz115_0 := blk_frozen BK188.out 0; have hfz115_1 := blk_frozen BK188.out 1))
        refine bodyPost_ret (results_ct rfl _ _ gb188 24 #[.int .i64 a0_0, .slice Ao111 x190001_2.length co111] (0, 0) _ rfl (by (with_reducible repeat (first | refine blk_drewN ?_ _ | refine blk_drew ?_ | refine blk_alloc ?_ _)); refine blk_put (cs := #[.int .i64 a0_0, .slice none 0 0]) ?_ 1 _ rfl; (with_reducible repeat (first | refine blk_drewN ?_ _ | refine blk_drew ?_ | refine blk_alloc ?_ _)); refine blk_put (cs := #[.int .i64 x189000_3, .slice none 0 0]) ?_ 0 _ rfl; (with_reducible repeat (first | refine blk_drewN ?_ _ | refine blk_drew ?_ | refine blk_alloc ?_ _)); exact BK188.out) Tryd.underlying24 rfl kk) rfl ?_
        exact ⟨_, pe, by (with_reducible repeat (first | apply Kd.R_alloc | apply Kd.R_drewN | apply Kd.R_drew)); exact Kd.R_mono (Kd.R_far (p := ⟨gb188, 1, none⟩) (Kd.R_far (p := ⟨gb188, 0, none⟩) (Kd.R_types HO_190001.out BK188.out (by decide)) (fun _ hk => hk.2) (.int .i64 a0_0)) (fun _ hk => hk.2) (.slice Ao111 x190001_2.length co111)) (fun _ hk => trivial), pw⟩
 rw [if_neg c2] at H
 exact absurd H (by simp)

end Go.Proofs.YtcalcnfppnbooaaDoor.Z
