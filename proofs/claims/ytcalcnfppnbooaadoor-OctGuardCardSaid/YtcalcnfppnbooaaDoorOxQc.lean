import Derived.Test.YtcalcnfppnbooaaDoorOxQw
/- Package octagon: close, walked. -/
set_option linter.unusedVariables false
set_option linter.unusedSimpArgs false
namespace Go.Proofs.Rco
open Go Go.RowKit Go.Proofs.Rcn Go.Proofs.Rcg Go.Proofs.YtcalcnfppnbooaaDoor.Z Go.Proofs.YtcalcnfppnbooaaDoorW.PrintWords
open Go.Proofs.YtcalcnfppnbooaaDoorW.PrintLast (start_ pure_ take_ one_ last_ norm_ done_ goes_ value_ skip_ i64_w i32_w)

/-- What stands while an octagon is closed: the box with it, the answer's block, the row. -/
structure CW (w : World) (N : Int) (g len c : Nat) (L : List Cel) (wr : World) : Prop where
  below : Below w.heap.size w wr
  lo : w.heap.size + 1 < wr.heap.size
  b0 : wr.cell? ⟨w.heap.size, 0, none⟩ = some (.int .i64 N)
  b1 : wr.cell? ⟨w.heap.size, 1, none⟩ = some (.slice (some ⟨g, 0, none⟩) len c)
  r0 : wr.cell? ⟨w.heap.size + 1, 0, none⟩ = some (.int .i64 0)
  r1 : wr.cell? ⟨w.heap.size + 1, 1, none⟩ = some (.slice none 0 0)
  f0 : wr.frozen? ⟨w.heap.size + 1, 0, none⟩ = false
  f1 : wr.frozen? ⟨w.heap.size + 1, 1, none⟩ = false
  row : ZRow wr w.heap.size oC (.slice (some ⟨g, 0, none⟩) len c) L
  ln : len = L.length
  gl : w.heap.size + 1 < g
  gh : g < wr.heap.size
section
variable {w W w1 : World} {N : Int} {g len c : Nat} {L M : List Cel}
theorem CW.next (h : CW w N g len c L W) (hb : Below W.heap.size W w1) : CW w N g len c L w1 :=
  ⟨below_then h.below hb, Nat.lt_of_lt_of_le h.lo hb.size, cell_below hb h.b0, cell_below hb h.b1, cell_below hb h.r0, cell_below hb h.r1,
    ((bcell hb).2 _ _ h.lo).trans h.f0, ((bcell hb).2 _ _ h.lo).trans h.f1, h.row.below hb, h.ln, h.gl, Nat.lt_of_lt_of_le h.gh hb.size⟩
theorem CW.drew (h : CW w N g len c L W) : CW w N g len c L W.drew := h.next (Go.Proofs.Rcn.below_drew (Below.refl _ _))
theorem CW.drewN (h : CW w N g len c L W) (q : Nat) : CW w N g len c L (W.drewN q) := h.next (Go.Proofs.Rcn.below_drewN (Below.refl _ _) q)
theorem CW.alloc (h : CW w N g len c L W) (o : Obj) : CW w N g len c L (W.alloc o) := h.next (Go.Proofs.Rcn.below_alloc (Below.refl _ _) o)
theorem CW.turn (h : CW w N g len c L W) (hb : But g W w1) (hz : ZRow w1 w.heap.size oC (.slice (some ⟨g, 0, none⟩) len c) M) (hl : M.length = L.length) : CW w N g len c M w1 :=
  have q := h.gl
  ⟨hb.below h.below (by have := h.lo; omega) (by omega), Nat.lt_of_lt_of_le h.lo hb.size, hb.cell h.b0 (by simp; omega), hb.cell h.b1 (by simp; omega), hb.cell h.r0 (by simp; omega), hb.cell h.r1 (by simp; omega),
    (hb.frozen h.lo (by omega) _).trans h.f0, (hb.frozen h.lo (by omega) _).trans h.f1, hz, h.ln.trans hl.symm, h.gl, Nat.lt_of_lt_of_le h.gh hb.size⟩
theorem CW.set (h : CW w N g len c L W) {b : Nat} (hb : w.heap.size + 1 < b) (hg : b ≠ g) (i : Nat) (u : Value) : CW w N g len c L (W.setCell ⟨b, i, none⟩ u) :=
  ⟨Go.Proofs.Rcn.below_set h.below (by simp; omega) _, by simpa using h.lo, (cell_two _ _ _ _ _ _ (by omega)).trans h.b0, (cell_two _ _ _ _ _ _ (by omega)).trans h.b1, (cell_two _ _ _ _ _ _ (by omega)).trans h.r0, (cell_two _ _ _ _ _ _ (by omega)).trans h.r1,
    (frozen_set ..).trans h.f0, (frozen_set ..).trans h.f1, h.row.set hg i u, h.ln, h.gl, by simpa using h.gh⟩
theorem at_n {N : Int} {g len c : Nat} {W : World} (n i j : Nat) (h2 : 2 * N = n) (hn : n ≤ 8) (hl : len = n * n) (hi : i < n) (hj : j < n) :
    Calls Tryd.prog 107 #[.agg #[.int .i64 N, .slice (some ⟨g, 0, none⟩) len c], .int .i64 i, .int .i64 j] W fun e w' => e = .returned (.pointer (some ⟨g, (i * n + j) * 2, none⟩)) ∧ ∃ o, w' = W.alloc o := by
  obtain ⟨m, rfl⟩ : ∃ m, n = 2 * m := ⟨n / 2, by omega⟩
  exact at_easy m i j (by omega) (by omega) hl hi hj
theorem CW.at (h : CW w N g len c L W) (n i j : Nat) (h2 : 2 * N = n) (hn : n ≤ 8) (hl : len = n * n) (hi : i < n) (hj : j < n) :
    Calls Tryd.prog 107 #[.agg #[.int .i64 N, .slice (some ⟨g, 0, none⟩) len c], .int .i64 i, .int .i64 j] W fun e w' => e = .returned (.pointer (some ⟨g, (i * n + j) * 2, none⟩)) ∧ ∃ o, w' = W.alloc o := at_n n i j h2 hn hl hi hj
theorem CW.least (h : CW w N g len c L W) (n i j : Nat) (h2 : 2 * N = n) (hn : n ≤ 8) (hl : len = n * n) (hi : i < n) (hj : j < n) (b : Bool) (x : Int) :
    Calls Tryd.prog 123 #[.agg #[.int .i64 N, .slice (some ⟨g, 0, none⟩) len c], .int .i64 i, .int .i64 j, .bool b, .int .i64 x] W fun e w' => e = .returned (.tuple #[]) ∧ CW w N g len c (leastO n L i j b x) w' ∧ But g W w' := by
  obtain ⟨m, rfl⟩ : ∃ m, n = 2 * m := ⟨n / 2, by omega⟩
  exact (least_any m i j g len c w.heap.size N L b x W (by omega) (by omega) hl hi hj h.row h.gh h.ln).mono fun e w' q => ⟨q.1, h.turn q.2.2 q.2.1 (leastO_length ..), q.2.2⟩
/-- .. and what the loads of one round meet. -/
abbrev S17 (w : World) (N : Int) (g len c : Nat) (L : List Cel) (x y : Nat) (W : World) : Prop :=
  CW w N g len c L W ∧ (W.cell? ⟨w.heap.size, 0, none⟩ = some (.int .i64 N) ∧ W.cell? ⟨w.heap.size, 1, none⟩ = some (.slice (some ⟨g, 0, none⟩) len c)) ∧
    (W.cell? ⟨g, x * 2, none⟩ = some (.bool (cg L x).has) ∧ W.cell? ⟨g, x * 2 + 1, none⟩ = some (.int .i64 (cg L x).most)) ∧ (W.cell? ⟨g, y * 2, none⟩ = some (.bool (cg L y).has) ∧ W.cell? ⟨g, y * 2 + 1, none⟩ = some (.int .i64 (cg L y).most))
theorem CW.s17 {x y : Nat} (h : CW w N g len c L W) (hx : x < len) (hy : y < len) : S17 w N g len c L x y W :=
  ⟨h, ⟨h.b0, h.b1⟩, ⟨h.row.at0 h.ln hx, h.row.at1 h.ln hx⟩, h.row.at0 h.ln hy, h.row.at1 h.ln hy⟩
end
/-- What closing tells: nothing, or a row of its own that is tight. -/
def ZPost (N : Int) (len : Nat) (w : World) (C : Option (List Cel)) (e : Ending) (w' : World) : Prop :=
  match C with
  | none => e = .returned (.tuple #[.agg #[.int .i64 0, .slice none 0 0], .bool false])
  | some C => ∃ A' c', e = .returned (.tuple #[.agg #[.int .i64 N, .slice A' len c'], .bool true]) ∧ ZRow w' w.heap.size oC (.slice A' len c') C

theorem half_any (m : Int) (w : World) : Calls Tryd.prog 122 #[.int .i64 m] w fun e w' => e = .returned (.int .i64 (m / 2)) ∧ w = w' := by
  go_enter Tryd.func122, Tryd.ntmps122
  go_wp2
  go_ret
  exact ⟨rfl, rfl⟩

set_option maxRecDepth 100000 in
set_option maxHeartbeats 4000000 in
theorem close_zero (A : Option Addr) (c : Nat) (w : World) (hz : RCel w A 0 []) :
    Calls Tryd.prog 105 #[.agg #[.int .i64 0, .slice A 0 c]] w fun e w' => Below w.heap.size w w' ∧ ZPost 0 0 w (some []) e w' := by
  have HZ := Lib.hid hz
  clear hz
  go_enter Tryd.func105, Tryd.ntmps105
  go_wp2_with fail
  refine (clone_any A 0 c _ [] _ (HZ.out.below (Go.Proofs.Rcn.below_alloc (Go.Proofs.Rcn.below_alloc (Below.refl _ _) _) _)) (by omega)).mono ?_
  rintro e w1 ⟨A1, c1, rfl, hr, hb⟩
  obtain ⟨hc1, hf1⟩ := bcell hb
  have hz1 : w.heap.size + 1 < w1.heap.size := by have := hb.size; simp at this; omega
  have hz0 : w.heap.size < w1.heap.size := by omega
  have HB := Lib.hid (below_then (Go.Proofs.Rcn.below_alloc (Go.Proofs.Rcn.below_alloc (Below.refl _ _) _) _) hb)
  have HR := Lib.hid hr
  have k0 : w1.cell? ⟨w.heap.size, 0, none⟩ = some (.int .i64 0) := by simp [go_sem, hc1]
  have k1 : w1.cell? ⟨w.heap.size, 1, none⟩ = some (.slice A 0 c) := by simp [go_sem, hc1]
  clear hb hr
  go_wp2
  iterate 6
    refine wp_loop_rounds 1 ?_
    rw [rounds_succ]
    go_wp2
  refine wp_loop_rounds 1 ?_
  rw [rounds_succ]
  go_wp2
  refine bodyPost_ret (v := .tuple #[.agg #[.int .i64 0, .slice A1 0 c1], .bool true]) (by simp [results, Tryd.results105, go_sem, hc1, hf1, hz0, hz1]) rfl ⟨?_, _, _, rfl, ?_⟩
  · repeat (first | exact HB.out | refine Go.Proofs.Rcn.below_set ?_ (by simp) _)
  · have h1 := ownsRow_setCell_below HR.out (a := ⟨w.heap.size, 0, none⟩) (by simp <;> omega) (.int .i64 0)
    have h2 := ownsRow_setCell_below h1 (a := ⟨w.heap.size, 1, none⟩) (by simp <;> omega) (.slice A1 0 c1)
    have h3 := ownsRow_setCell_below h2 (a := ⟨w.heap.size + 1, 0, none⟩) (by simp <;> omega) (.int .i64 0)
    have h4 := ownsRow_setCell_below h3 (a := ⟨w.heap.size + 1, 1, none⟩) (by simp <;> omega) (.slice A1 0 c1)
    exact ZRow.low h4 (by simp <;> omega)
set_option maxRecDepth 100000 in
set_option maxHeartbeats 8000000 in
theorem close_some (A : Option Addr) (n len c : Nat) (N : Int) (L : List Cel) (w : World) (hN : 2 * N = n) (hn1 : 1 ≤ n) (hn : n ≤ 8) (hl : len = n * n) (hz : RCel w A len L) :
    Calls Tryd.prog 105 #[.agg #[.int .i64 N, .slice A len c]] w fun e w' => Below w.heap.size w w' ∧ ZPost N len w (closeO n L) e w' := by
  have hm : 1 ≤ len ∧ len ≤ 64 := by rw [hl]; exact ⟨Nat.mul_le_mul hn1 hn1, Nat.mul_le_mul hn hn⟩
  have hn0 : 0 ≤ N ∧ N ≤ 4 := by omega
  have HZ := Lib.hid hz
  have HL := Lib.hid hz.1
  have HN := Lib.hid hN
  have Hl := Lib.hid hl
  have Hop := Lib.hid (fun i => op_even (i := i) hN)
  clear hz hN hl
  go_enter Tryd.func105, Tryd.ntmps105
  go_upto_region 1 with fail
  go_cut [] (fun wc => ∃ g c1, CW w N g len c1 L wc)
  case first =>
    as_aux_lemma =>
     go_wp2_with fail
     refine (clone_any A len c _ L _ (HZ.out.below (Go.Proofs.Rcn.below_alloc (Go.Proofs.Rcn.below_alloc (Below.refl _ _) _) _)) (by omega)).mono ?_
     rintro e w1 ⟨A1, c1, rfl, hr, hb⟩
     obtain ⟨hc1, hf1⟩ := bcell hb
     have hz1 : w.heap.size + 1 < w1.heap.size := by have := hb.size; simp at this; omega
     have hz0 : w.heap.size < w1.heap.size := by omega
     obtain ⟨g, cap, hv, hg1, hg2⟩ := hr.form (by rw [HL.out]; omega)
     simp only [Value.slice.injEq] at hv
     obtain ⟨rfl, -, rfl⟩ := hv
     simp at hg1
     have hB := Lib.hid (below_then (Go.Proofs.Rcn.below_alloc (Go.Proofs.Rcn.below_alloc (Below.refl _ _) _) _) hb)
     have H1 := Lib.hid (ownsRow_setCell_below (ownsRow_setCell_below hr.out (a := ⟨w.heap.size, 0, none⟩) (by simp <;> omega) (.int .i64 N)) (a := ⟨w.heap.size, 1, none⟩) (by simp <;> omega) (.slice (some ⟨g, 0, none⟩) len c1))
     have k0 : w1.cell? ⟨w.heap.size, 0, none⟩ = some (.int .i64 N) := by simp [go_sem, hc1]
     have k1 : w1.cell? ⟨w.heap.size, 1, none⟩ = some (.slice A len c) := by simp [go_sem, hc1]
     clear hb hr
     go_wp2
     go_meet
     refine ⟨g, c1, Go.Proofs.Rcn.below_set (Go.Proofs.Rcn.below_set hB.out (Nat.le_refl _) _) (Nat.le_refl _) _, by simpa using hz1, ?_, ?_, ?_, ?_, ?_, ?_, ZRow.low H1.out (by simp <;> omega), HL.out.symm, by omega, by simpa using hg2⟩
     · exact (cell_two _ _ _ _ _ _ (by omega)).trans (World.cell?_setCell_same' _ _ _ (by rw [k0]; rfl))
     · exact World.cell?_setCell_same' _ _ _ (by rw [cell_two _ _ _ _ _ _ (by omega), k1]; rfl)
     all_goals simp [go_sem, hc1, hf1, frozen_set]
  case rest =>
    obtain ⟨g, c1, H0⟩ := hcut
    -- the ways from each to itself
    have g0 := H0.b0
    have hN := HN.out
    go_upto_region 3 with fail
    go_upto_block 0 with fail
    go_cut [] (fun wc => Hid (CW w N g len c1 (rep (octD n) n L) wc))
    case first =>
      as_aux_lemma =>
       go_wp2
       go_loopw [29] (fun i wr => ∃ k : Nat, k ≤ n ∧ i = .int .i64 k ∧ Hid (CW w N g len c1 (rep (octD n) k L) wr)) (fun i _ => n - (intOf i).toNat)
       case atStart => exact ⟨0, Nat.zero_le _, rfl, H0⟩
       case round =>
         obtain ⟨k, hk, rfl, HW⟩ := hrel
         by_cases hlt : k < n
         · have b0 := HW.out.b0
           have b1 := HW.out.b1
           go_wp2_with fail
           refine (HW.out.least n k k HN.out hn Hl.out hlt hlt _ _).mono ?_
           rintro e w2 ⟨rfl, h2, -⟩
           have H2 := Lib.hid h2
           clear h2
           go_wp2
           exact ⟨⟨k + 1, by omega, by go_num, H2⟩, by simp [intOf]; omega⟩
         · obtain rfl : k = n := by omega
           go_wp2
           go_meet
           exact HW
    case rest =>
      clear H0 g0
      go_upto_region 8 with fail
      go_upto_block 2 with fail
      go_cut [] (fun wc => Hid (CW w N g len c1 (preOct n L) wc))
      case first =>
        as_aux_lemma =>
         go_wp2
         go_loopw [38] (fun i wr => ∃ k : Nat, k ≤ n ∧ i = .int .i64 k ∧ Hid (CW w N g len c1 (rep (octK n) k (rep (octD n) n L)) wr)) (fun i _ => n - (intOf i).toNat)
         case atStart => exact ⟨0, Nat.zero_le _, rfl, hcut⟩
         case round =>
           obtain ⟨k, hk, rfl, HW⟩ := hrel
           by_cases hlt : k < n
           case neg =>
             obtain rfl : k = n := by omega
             go_wp2
             go_meet
             exact HW
           have HK : Hid (rep (octK n) (k + 1) (rep (octD n) n L) = rep (octI n k) n (rep (octK n) k (rep (octD n) n L))) := rfl
           generalize rep (octK n) k (rep (octD n) n L) = LK at HW HK
           obtain ⟨wo, rfl⟩ : ∃ wo : World, wo = wr := ⟨_, rfl⟩
           clear hcut
           go_wp2
           go_loopw [42] (fun i wr => ∃ k2 : Nat, k2 ≤ n ∧ i = .int .i64 k2 ∧ Hid (CW w N g len c1 (rep (octI n k) k2 LK) wr)) (fun i _ => n - (intOf i).toNat)
           case atStart => exact ⟨0, Nat.zero_le _, rfl, HW⟩
           case round =>
             obtain ⟨i, hi, rfl, HV⟩ := hrel
             by_cases hlt2 : i < n
             case neg =>
               obtain rfl : i = n := by omega
               go_wp2
               exact ⟨⟨k + 1, by omega, by go_num, by show CW _ _ _ _ _ _ _; rw [HK.out]; exact HV.out⟩, by simp [intOf]; omega⟩
             have HI : Hid (rep (octI n k) (i + 1) LK = rep (octJ n k i) n (rep (octI n k) i LK)) := rfl
             generalize rep (octI n k) i LK = LI at HV HI
             obtain ⟨wp, rfl⟩ : ∃ wp : World, wp = wr := ⟨_, rfl⟩
             clear HW
             go_wp2
             go_loopg [9, 10, 46] (n + 1) (fun gk p9 p10 i2 wr => ∃ k3 : Nat, k3 ≤ n ∧ n + 1 = k3 + gk ∧ i2 = .int .i64 k3 ∧ Hid (CW w N g len c1 (rep (octJ n k i) k3 LI) wr))
             case atStart => exact ⟨0, Nat.zero_le _, by omega, rfl, HV⟩
             case round =>
               obtain ⟨j, hj, hgk, rfl, HU⟩ := hrel
               by_cases hlt3 : j < n
               case neg =>
                 obtain rfl : j = n := by omega
                 go_wp2
                 exact ⟨⟨i + 1, by omega, by go_num, by show CW _ _ _ _ _ _ _; rw [HI.out]; exact HU.out⟩, by simp [intOf]; omega⟩
               have HJ : Hid (rep (octJ n k i) (j + 1) LI = octJ n k i (rep (octJ n k i) j LI) j) := rfl
               generalize rep (octJ n k i) j LI = LJ at HU HJ
               clear HV
               have hx1 : i * n + k < len := by rw [Hl.out]; exact idx_lt hlt2 hlt
               have hx2 : k * n + j < len := by rw [Hl.out]; exact idx_lt hlt hlt3
               have hA := Lib.hid (HU.out.drew.s17 hx1 hx2)
               have hgh := HU.out.gh
               have hlo := HU.out.lo
               go_upto_region 17 with fail
               go_cut [9, 10] (fun p q wc => ∃ pa pb, p = .pointer (some ⟨pa, 0, none⟩) ∧ q = .pointer (some ⟨pb, 0, none⟩) ∧ pa ≠ g ∧ pb ≠ g ∧ Hid (CW w N g len c1 LJ wc ∧ Cells2 wc pa (cg LJ (i * n + k)) ∧ Cells2 wc pb (cg LJ (k * n + j))))
               case first =>
                 go_region_held3 (fun w' => S17 w N g len c1 LJ (i * n + k) (k * n + j) w') (first
                   | exact hA.out
                   | (refine CW.s17 ?_ hx1 hx2; repeat (first | exact HU.out | refine CW.drew ?_ | refine CW.alloc ?_ _ | refine CW.set ?_ (by simp; omega) (by simp; omega) _ _)))
                   ((go_at_call 107; refine (CW.at (And.left (by assumption : S17 w N g len c1 LJ (i * n + k) (k * n + j) _)) n _ _ HN.out hn Hl.out (by assumption) (by assumption)).mono ?_; rintro e w1 ⟨rfl, o1, rfl⟩))
                 all_goals (go_wp2_with fail; go_meet)
                 all_goals exact ⟨_, _, rfl, rfl, by simp; omega, by simp; omega, And.left (by assumption), ⟨by simp [go_sem], by simp [go_sem]⟩, ⟨by simp [go_sem], by simp [go_sem]⟩⟩
               case rest =>
                 as_aux_lemma =>
                  clear hA HU
                  obtain ⟨pa, pb, rfl, rfl, hpa, hpb, HB⟩ := hcut
                  have HX : Hid (octJ n k i LJ j = leastO n LJ i j ((cg LJ (i * n + k)).has && (cg LJ (k * n + j)).has) (wrap64 ((cg LJ (i * n + k)).most + (cg LJ (k * n + j)).most))) := rfl
                  generalize cg LJ (i * n + k) = X at HB HX
                  generalize cg LJ (k * n + j) = Y at HB HX
                  obtain ⟨xh, xm⟩ := X
                  obtain ⟨yh, ym⟩ := Y
                  have b0 := HB.out.1.b0
                  have b1 := HB.out.1.b1
                  have pa0 := HB.out.2.1.1
                  have pa1 := HB.out.2.1.2
                  have pb0 := HB.out.2.2.1
                  have pb1 := HB.out.2.2.2
                  simp only at pa0 pa1 pb0 pb1
                  cases xh
                  all_goals
                    go_wp2_with fail
                    refine (HB.out.1.least n i j HN.out hn Hl.out hlt2 hlt3 _ _).mono ?_
                    rintro e w2 ⟨rfl, h2, -⟩
                    have H2 := Lib.hid h2
                    clear h2 b0 b1 pa0 pa1 pb0 pb1
                    go_wp2
                    go_roundg (gk - 1)
                    case measure => omega
                    case rel => exact ⟨j + 1, by omega, by omega, by go_num, by show CW _ _ _ _ _ _ _; rw [HJ.out, HX.out]; simp only [Bool.true_and, Bool.false_and]; first | exact H2.out | (rw [← IntWalk.i64_left]; exact H2.out)⟩
      case rest =>
        have HP := hcut
        clear hcut
        have HPl : Hid ((preOct n L).length = L.length) := by
          show (preOct n L).length = L.length
          rw [HP.out.ln.symm]
          exact HL.out.symm
        have HC : Hid (closeO n L = if okL n (preOct n L) = true then tightO n (preOct n L) else none) := rfl
        generalize preOct n L = P at HP HPl HC
        go_wp2
        go_loopw [80] (fun i wr => ∃ k : Nat, k ≤ n ∧ i = .int .i64 k ∧ Hid (∀ j, j < k → okAt n P j = true) ∧ Hid (CW w N g len c1 P wr)) (fun i _ => n - (intOf i).toNat)
        case atStart => exact ⟨0, Nat.zero_le _, rfl, fun j hj => absurd hj (by omega), HP⟩
        case round =>
          obtain ⟨k, hk, rfl, HO, HW⟩ := hrel
          clear HP
          by_cases hlt : k < n
          case pos =>
            have hx : k * n + k < len := by rw [Hl.out]; exact idx_lt hlt hlt
            have b0 := HW.out.b0
            have b1 := HW.out.b1
            go_wp2_with fail
            refine (HW.out.at n k k HN.out hn Hl.out hlt hlt).mono ?_
            rintro e w1 ⟨rfl, o, rfl⟩
            as_aux_lemma =>
             have q1 := (HW.out.alloc o).row.at1 (HW.out.alloc o).ln hx
             have HX : Hid (okAt n P k = !decide ((cg P (k * n + k)).most < 0)) := rfl
             generalize (cg P (k * n + k)).most = m at q1 HX
             by_cases hm : m < 0
             · have hm1 : decide (m < 0) = true := decide_eq_true hm
               have r0 := (HW.out.alloc o).r0
               have r1 := (HW.out.alloc o).r1
               have f0 := (HW.out.alloc o).f0
               have f1 := (HW.out.alloc o).f1
               have HN1 : Hid (closeO n L = none) := by
                 show closeO n L = none
                 rw [HC.out, if_neg]
                 unfold okL
                 rw [List.all_eq_true]
                 intro q
                 have := q k (List.mem_range.2 hlt)
                 rw [HX.out, hm1] at this
                 cases this
               have HBl := Lib.hid (HW.out.alloc o).below
               go_wp2
               refine bodyPost_ret (v := .tuple #[.agg #[.int .i64 0, .slice none 0 0], .bool false]) (by simp [results, Tryd.results105, go_sem, r0, r1, f0, f1]) rfl ⟨Go.Proofs.Rcn.below_set (Go.Proofs.Rcn.below_set HBl.out (by simp) _) (by simp) _, by rw [HN1.out]; rfl⟩
             · have hm1 : decide (m < 0) = false := decide_eq_false hm
               go_wp2
               exact ⟨⟨k + 1, by omega, by go_num, fun j hj => by
                 rcases Nat.lt_or_ge j k with h | h
                 · exact HO.out j h
                 · obtain rfl : j = k := by omega
                   rw [HX.out, hm1]
                   rfl, HW.out.alloc o⟩, by simp [intOf]; omega⟩
          obtain rfl : k = n := by omega
          have HC2 : Hid (closeO k L = tightO k P) := by
            show closeO k L = tightO k P
            rw [HC.out, if_pos]
            unfold okL
            rw [List.all_eq_true]
            intro j hj
            exact HO.out j (List.mem_range.1 hj)
          clear HC HO
          -- halved
          go_upto_region 28 with fail
          go_upto_block 10 with fail
          go_cut [] (fun wc => Hid (CW w N g len c1 (halved k P) wc))
          case first =>
            as_aux_lemma =>
             go_wp2
             go_loopw [94] (fun i wr => ∃ q : Nat, q ≤ k ∧ i = .int .i64 q ∧ Hid (CW w N g len c1 (rep (halfI k) q P) wr)) (fun i _ => k - (intOf i).toNat)
             case atStart => exact ⟨0, Nat.zero_le _, rfl, HW⟩
             case round =>
               obtain ⟨q, hq, rfl, HV⟩ := hrel
               clear HW
               by_cases hlt : q < k
               case neg =>
                 obtain rfl : q = k := by omega
                 go_wp2
                 go_meet
                 exact HV
               have HS : Hid (rep (halfI k) (q + 1) P = halfI k (rep (halfI k) q P) q) := rfl
               generalize rep (halfI k) q P = X at HV HS
               have k1 := xor_op q (by omega)
               have hop := Hop.out q hlt
               have hx : q * k + op q < len := by rw [Hl.out]; exact idx_lt hlt hop
               have b0 := HV.out.b0
               have b1 := HV.out.b1
               go_wp2_with fail
               refine (HV.out.at k q (op q) HN.out hn Hl.out hlt hop).mono ?_
               rintro e w1 ⟨rfl, o, rfl⟩
               have HA := Lib.hid (HV.out.alloc o)
               have c0 := HA.out.row.at0 HA.out.ln hx
               have cm := HA.out.row.at1 HA.out.ln hx
               have fr1 := HA.out.row.free HA.out.ln ((q * k + op q) * 2 + 1)
               have HE : Hid (halfI k X q = X.set (q * k + op q) (halfC (cg X (q * k + op q)))) := rfl
               have HSelf := Lib.hid (set_self X (q * k + op q))
               have HPut1 := Lib.hid (fun m => HA.out.row.put1 HA.out.ln (q * k + op q) m)
               generalize cg X (q * k + op q) = y at c0 cm HE HSelf HPut1
               obtain ⟨yh, ym⟩ := y
               simp only at c0 cm HPut1
               clear HV b0 b1 k1 hop
               cases yh with
               | false =>
                 go_wp2
                 exact ⟨⟨q + 1, by omega, by go_num, by show CW _ _ _ _ _ _ _; rw [HS.out, HE.out, show halfC ⟨false, ym⟩ = ⟨false, ym⟩ from rfl, HSelf.out]; exact HA.out⟩, by simp [intOf]; omega⟩
               | true =>
                 go_wp2
                 exact ⟨⟨q + 1, by omega, by go_num, by show CW _ _ _ _ _ _ _; rw [HS.out, HE.out]; exact HA.out.turn ((But.refl g _).set _ _) (HPut1.out _) (by simp)⟩, by simp [intOf]; omega⟩
          case rest =>
            clear HW
            have HH := hcut
            clear hcut
            have HHl : Hid ((halved k P).length = L.length) := by
              show (halved k P).length = L.length
              rw [HH.out.ln.symm]
              exact HL.out.symm
            have HT : Hid (tightO k P = if ((List.range k).all (okH k (halved k P))) = true then some ((strong k (halved k P)).map clipC) else none) := rfl
            generalize halved k P = H at HH HHl HT
            go_wp2
            go_loopw [117] (fun i wr => ∃ q : Nat, q ≤ k ∧ i = .int .i64 q ∧ Hid (∀ j, j < q → okH k H j = true) ∧ Hid (CW w N g len c1 H wr)) (fun i _ => k - (intOf i).toNat)
            case atStart => exact ⟨0, Nat.zero_le _, rfl, fun j hj => absurd hj (by omega), HH⟩
            case round =>
              obtain ⟨q, hq, rfl, HO, HV⟩ := hrel
              clear HH
              by_cases hlt : q < k
              case pos =>
                have k1 := xor_op q (by omega)
                have hop := Hop.out q hlt
                have hx1 : q * k + op q < len := by rw [Hl.out]; exact idx_lt hlt hop
                have hx2 : op q * k + q < len := by rw [Hl.out]; exact idx_lt hop hlt
                have hA := Lib.hid (HV.out.drew.s17 hx1 hx2)
                have hgh := HV.out.gh
                have hlo := HV.out.lo
                as_aux_lemma =>
                 go_upto_region 38 with fail
                 go_cut [15, 16] (fun p1 p2 wc => p1 = .pointer (some ⟨g, (q * k + op q) * 2, none⟩) ∧ p2 = .pointer (some ⟨g, (op q * k + q) * 2, none⟩) ∧ Hid (CW w N g len c1 H wc))
                 case first =>
                   go_region_held3 (fun w' => S17 w N g len c1 H (q * k + op q) (op q * k + q) w') (first
                     | exact hA.out
                     | (refine CW.s17 ?_ hx1 hx2; repeat (first | exact HV.out | refine CW.drew ?_ | refine CW.alloc ?_ _)))
                     ((go_at_call 107; refine (CW.at (And.left (by assumption : S17 w N g len c1 H (q * k + op q) (op q * k + q) _)) k _ _ HN.out hn Hl.out (by assumption) (by assumption)).mono ?_; rintro e w1 ⟨rfl, o1, rfl⟩))
                   all_goals (go_wp2_with fail; go_meet)
                   all_goals exact ⟨rfl, rfl, And.left (by assumption)⟩
                 case rest =>
                   obtain ⟨rfl, rfl, HB⟩ := hcut
                   have HX : Hid (okH k H q = !((cg H (q * k + op q)).has && (cg H (op q * k + q)).has && decide (wrap64 ((cg H (q * k + op q)).most + (cg H (op q * k + q)).most) < 0))) := rfl
                   have c0 := HB.out.row.at0 HB.out.ln hx1
                   have cm := HB.out.row.at1 HB.out.ln hx1
                   have d0 := HB.out.row.at0 HB.out.ln hx2
                   have dm := HB.out.row.at1 HB.out.ln hx2
                   clear hA HV k1
                   generalize cg H (q * k + op q) = X at c0 cm HX
                   generalize cg H (op q * k + q) = Y at d0 dm HX
                   obtain ⟨xh, xm⟩ := X
                   obtain ⟨yh, ym⟩ := Y
                   simp only at c0 cm d0 dm HX
                   cases xh with
                   | false =>
                     go_wp2_with fail
                     go_quiet (fail)
                     go_wp2
                     exact ⟨⟨q + 1, by omega, by go_num, fun j hj => by
                       rcases Nat.lt_or_ge j q with h | h
                       · exact HO.out j h
                       · obtain rfl : j = q := by omega
                         rw [HX.out]; rfl, HB.out.drewN _⟩, by simp [intOf]; omega⟩
                   | true =>
                     cases yh with
                     | false =>
                       go_wp2_with fail
                       go_quiet (fail)
                       go_wp2
                       exact ⟨⟨q + 1, by omega, by go_num, fun j hj => by
                         rcases Nat.lt_or_ge j q with h | h
                         · exact HO.out j h
                         · obtain rfl : j = q := by omega
                           rw [HX.out]; rfl, HB.out.drewN _⟩, by simp [intOf]; omega⟩
                     | true =>
                       by_cases hs : wrap64 (xm + ym) < 0
                       · have hs1 : decide (wrap64 (xm + ym) < 0) = true := decide_eq_true hs
                         have hs2 : decide (IntKind.i64.wrap (xm + ym) < 0) = true := by rw [IntWalk.i64_left]; exact hs1
                         have r0 := HB.out.r0
                         have r1 := HB.out.r1
                         have f0 := HB.out.f0
                         have f1 := HB.out.f1
                         have HBl := Lib.hid HB.out.below
                         have HN1 : Hid (closeO k L = none) := by
                           show closeO k L = none
                           rw [HC2.out, HT.out, if_neg]
                           rw [List.all_eq_true]
                           intro z
                           have := z q (List.mem_range.2 hlt)
                           rw [HX.out, hs1] at this
                           cases this
                         go_wp2_with fail
                         go_quiet (fail)
                         go_wp2
                         refine bodyPost_ret (v := .tuple #[.agg #[.int .i64 0, .slice none 0 0], .bool false]) (by simp [results, Tryd.results105, go_sem, r0, r1, f0, f1]) rfl ⟨Go.Proofs.Rcn.below_set (Go.Proofs.Rcn.below_set (Go.Proofs.Rcn.below_drewN HBl.out _) (by simp) _) (by simp) _, by rw [HN1.out]; rfl⟩
                       · have hs1 : decide (wrap64 (xm + ym) < 0) = false := decide_eq_false hs
                         have hs2 : decide (IntKind.i64.wrap (xm + ym) < 0) = false := by rw [IntWalk.i64_left]; exact hs1
                         go_wp2_with fail
                         go_quiet (fail)
                         go_wp2
                         exact ⟨⟨q + 1, by omega, by go_num, fun j hj => by
                           rcases Nat.lt_or_ge j q with h | h
                           · exact HO.out j h
                           · obtain rfl : j = q := by omega
                             rw [HX.out, hs1]; rfl, HB.out.drewN _⟩, by simp [intOf]; omega⟩
              obtain rfl : q = k := by omega
              have HC3 : Hid (closeO q L = some ((strong q H).map clipC)) := by
                show closeO q L = some ((strong q H).map clipC)
                rw [HC2.out, HT.out, if_pos]
                rw [List.all_eq_true]
                intro j hj
                exact HO.out j (List.mem_range.1 hj)
              clear HC2 HT HO
              -- tightened
              go_upto_region 42 with fail
              go_upto_block 14 with fail
              go_cut [] (fun wc => Hid (CW w N g len c1 (strong q H) wc))
              case first =>
                as_aux_lemma =>
                 go_wp2
                 go_loopw [155] (fun v wr => ∃ k2 : Nat, k2 ≤ q ∧ v = .int .i64 k2 ∧ Hid (CW w N g len c1 (rep (strI q) k2 H) wr)) (fun v _ => q - (intOf v).toNat)
                 case atStart => exact ⟨0, Nat.zero_le _, rfl, HV⟩
                 case round =>
                   obtain ⟨i, hi, rfl, HV2⟩ := hrel
                   by_cases hlt2 : i < q
                   case neg =>
                     obtain rfl : i = q := by omega
                     go_wp2
                     go_meet
                     exact HV2
                   have HI : Hid (rep (strI q) (i + 1) H = rep (strJ q i) q (rep (strI q) i H)) := rfl
                   generalize rep (strI q) i H = LI at HV2 HI
                   obtain ⟨wp, rfl⟩ : ∃ wp : World, wp = wr := ⟨_, rfl⟩
                   clear HV
                   go_wp2
                   go_loopg [19, 20, 159] (q + 1) (fun gk p9 p10 i2 wr => ∃ k3 : Nat, k3 ≤ q ∧ q + 1 = k3 + gk ∧ i2 = .int .i64 k3 ∧ Hid (CW w N g len c1 (rep (strJ q i) k3 LI) wr))
                   case atStart => exact ⟨0, Nat.zero_le _, by omega, rfl, HV2⟩
                   case round =>
                     obtain ⟨j, hj, hgk, rfl, HU⟩ := hrel
                     by_cases hlt3 : j < q
                     case neg =>
                       obtain rfl : j = q := by omega
                       go_wp2
                       exact ⟨⟨i + 1, by omega, by go_num, by show CW _ _ _ _ _ _ _; rw [HI.out]; exact HU.out⟩, by simp [intOf]; omega⟩
                     have HJ : Hid (rep (strJ q i) (j + 1) LI = strJ q i (rep (strJ q i) j LI) j) := rfl
                     generalize rep (strJ q i) j LI = LJ at HU HJ
                     clear HV2
                     have k1 := xor_op i (by omega)
                     have k2 := xor_op j (by omega)
                     have hopi := Hop.out i hlt2
                     have hopj := Hop.out j hlt3
                     have hx1 : i * q + op i < len := by rw [Hl.out]; exact idx_lt hlt2 hopi
                     have hx2 : op j * q + j < len := by rw [Hl.out]; exact idx_lt hopj hlt3
                     have hA := Lib.hid (HU.out.drew.s17 hx1 hx2)
                     have hgh := HU.out.gh
                     have hlo := HU.out.lo
                     go_upto_region 48 with fail
                     go_cut [19, 20] (fun p1 p2 wc => ∃ pa pb, p1 = .pointer (some ⟨pa, 0, none⟩) ∧ p2 = .pointer (some ⟨pb, 0, none⟩) ∧ pa ≠ g ∧ pb ≠ g ∧ Hid (CW w N g len c1 LJ wc ∧ Cells2 wc pa (cg LJ (i * q + op i)) ∧ Cells2 wc pb (cg LJ (op j * q + j))))
                     case first =>
                       go_region_held3 (fun w' => S17 w N g len c1 LJ (i * q + op i) (op j * q + j) w') (first
                         | exact hA.out
                         | (refine CW.s17 ?_ hx1 hx2; repeat (first | exact HU.out | refine CW.drew ?_ | refine CW.alloc ?_ _ | refine CW.set ?_ (by simp; omega) (by simp; omega) _ _)))
                         ((go_at_call 107; refine (CW.at (And.left (by assumption : S17 w N g len c1 LJ (i * q + op i) (op j * q + j) _)) q _ _ HN.out hn Hl.out (by assumption) (by assumption)).mono ?_; rintro e w1 ⟨rfl, o1, rfl⟩))
                       all_goals (go_wp2_with fail; go_meet)
                       all_goals exact ⟨_, _, rfl, rfl, by simp; omega, by simp; omega, And.left (by assumption), ⟨by simp [go_sem], by simp [go_sem]⟩, ⟨by simp [go_sem], by simp [go_sem]⟩⟩
                     case rest =>
                       clear hA HU k1 k2
                       obtain ⟨pa, pb, rfl, rfl, hpa, hpb, HB⟩ := hcut
                       have HX : Hid (strJ q i LJ j = leastO q LJ i j ((cg LJ (i * q + op i)).has && (cg LJ (op j * q + j)).has && decide (i ≠ j)) (wrap64 ((cg LJ (i * q + op i)).most / 2 + (cg LJ (op j * q + j)).most / 2))) := rfl
                       generalize cg LJ (i * q + op i) = X at HB HX
                       generalize cg LJ (op j * q + j) = Y at HB HX
                       obtain ⟨xh, xm⟩ := X
                       obtain ⟨yh, ym⟩ := Y
                       simp only at HX
                       have HD : Hid (CW w N g len c1 LJ wc.drew ∧ Cells2 wc.drew pa ⟨xh, xm⟩ ∧ Cells2 wc.drew pb ⟨yh, ym⟩) := ⟨HB.out.1.drew, HB.out.2.1, HB.out.2.2⟩
                       clear HB
                       go_upto_region 49 with fail
                       cases xh with
                       | false =>
                         as_aux_lemma =>
                          refine start_ (n := 22) (S := fun w' => w'.cell? ⟨w.heap.size, 0, none⟩ = some (.int .i64 N) ∧ w'.cell? ⟨w.heap.size, 1, none⟩ = some (.slice (some ⟨g, 0, none⟩) len c1) ∧ w'.cell? ⟨pa, 0, none⟩ = some (.bool false) ∧ w'.cell? ⟨pa, 1, none⟩ = some (.int .i64 xm) ∧ w'.cell? ⟨pb, 0, none⟩ = some (.bool yh) ∧ w'.cell? ⟨pb, 1, none⟩ = some (.int .i64 ym)) (ds := [21]) #[false, false, false, false, false, false, false, false, false, false, false, false, false, false, false, false, false, false, false, false, false, false] (by kernel_rfl) rfl rfl ⟨HD.out.1.b0, HD.out.1.b1, HD.out.2.1.1, HD.out.2.1.2, HD.out.2.2.1, HD.out.2.2.2⟩ (fun hHeld => ?_)
                          generalize wc.drew = wd at HD hHeld ⊢
                          refine pure_ (i := 1) (N := some 177) (v := ?_) (a' := ?_) #[false, true, false, false, false, false, false, false, false, false, false, false, false, false, false, false, false, false, false, false, false, false] rfl rfl (by kernel_rfl) (fun _ _ _ h => h) (Or.inl ⟨by rfl, ?_⟩) ?_ ?_; rotate_left; (· intro w'; go_simp; (with_reducible rfl)); rotate_left; (· simp only [sp]; rfl)
                          refine pure_ (i := 2) (N := some 178) (v := ?_) (a' := ?_) #[false, true, true, false, false, false, false, false, false, false, false, false, false, false, false, false, false, false, false, false, false, false] rfl rfl (by kernel_rfl) (fun _ _ _ h => h) (Or.inl ⟨by rfl, ?_⟩) ?_ ?_; rotate_left; (· intro w'; go_simp; (with_reducible rfl)); rotate_left; (· simp only [sp]; rfl)
                          refine pure_ (i := 3) (N := some 179) (v := ?_) (a' := ?_) #[false, true, true, true, false, false, false, false, false, false, false, false, false, false, false, false, false, false, false, false, false, false] rfl rfl (by kernel_rfl) (fun _ _ _ h => h) (Or.inl ⟨by rfl, ?_⟩) ?_ ?_; rotate_left; (· intro w'; go_simp; (with_reducible rfl)); rotate_left; (· simp only [sp]; rfl)
                          refine pure_ (i := 14) (N := some 190) (v := ?_) (a' := ?_) #[false, true, true, true, false, false, false, false, false, false, false, false, false, false, true, false, false, false, false, false, false, false] rfl rfl (by kernel_rfl) (fun _ _ _ h => h) (Or.inl ⟨by rfl, ?_⟩) ?_ ?_; rotate_left; (· intro w'; go_simp; (with_reducible rfl)); rotate_left; (· simp only [sp]; rfl)
                          refine pure_ (i := 17) (N := some 193) (v := ?_) (a' := ?_) #[false, true, true, true, false, false, false, false, false, false, false, false, false, false, true, false, false, true, false, false, false, false] rfl rfl (by kernel_rfl) (fun _ _ _ h => h) (Or.inl ⟨by rfl, ?_⟩) ?_ ?_; rotate_left; (· intro w'; go_simp; (with_reducible rfl)); rotate_left; (· simp only [sp]; rfl)
                          refine take_ (i := 0) (N := some 176) (v := ?_) (a' := ?_) #[true, true, true, true, false, false, false, false, false, false, false, false, false, false, true, false, false, true, false, false, false, false] rfl rfl (by kernel_rfl) (fun _ _ _ h => h) (Or.inl ⟨by rfl, ?_⟩) hHeld ?_ ?_; rotate_left; (· rintro w' ⟨s0, s1, s2, s3, s4, s5⟩; go_simp; (with_reducible rfl)); rotate_left; (· simp only [sp]; rfl)
                          refine take_ (i := 4) (N := some 180) (v := ?_) (a' := ?_) #[true, true, true, true, true, false, false, false, false, false, false, false, false, false, true, false, false, true, false, false, false, false] rfl rfl (by kernel_rfl) (fun _ _ _ h => h) (Or.inl ⟨by rfl, ?_⟩) hHeld ?_ ?_; rotate_left; (· rintro w' ⟨s0, s1, s2, s3, s4, s5⟩; go_simp; (with_reducible rfl)); rotate_left; (· simp only [sp]; rfl)
                          refine pure_ (i := 5) (N := some 181) (v := ?_) (a' := ?_) #[true, true, true, true, true, true, false, false, false, false, false, false, false, false, true, false, false, true, false, false, false, false] rfl rfl (by kernel_rfl) (fun _ _ _ h => h) (Or.inl ⟨by rfl, ?_⟩) ?_ ?_; rotate_left; (· intro w'; go_simp; (with_reducible rfl)); rotate_left; (· simp only [sp]; rfl)
                          refine pure_ (i := 6) (N := some 182) (v := undef) (a' := ?_) #[true, true, true, true, true, true, true, false, false, false, false, false, false, false, true, false, false, true, false, false, false, false] rfl rfl (by kernel_rfl) (fun _ _ _ h => h) (Or.inr ⟨by rfl, rfl⟩) ?_ ?_; rotate_left; (· simp only [sp]; rfl)
                          refine pure_ (i := 7) (N := some 183) (v := undef) (a' := ?_) #[true, true, true, true, true, true, true, true, false, false, false, false, false, false, true, false, false, true, false, false, false, false] rfl rfl (by kernel_rfl) (fun _ _ _ h => h) (Or.inr ⟨by rfl, rfl⟩) ?_ ?_; rotate_left; (· simp only [sp]; rfl)
                          refine pure_ (i := 8) (N := some 184) (v := ?_) (a' := ?_) #[true, true, true, true, true, true, true, true, true, false, false, false, false, false, true, false, false, true, false, false, false, false] rfl rfl (by kernel_rfl) (fun _ _ _ h => h) (Or.inl ⟨by rfl, ?_⟩) ?_ ?_; rotate_left; (· intro w'; go_simp; (with_reducible rfl)); rotate_left; (· simp only [sp]; rfl)
                          refine pure_ (i := 9) (N := some 185) (v := ?_) (a' := ?_) #[true, true, true, true, true, true, true, true, true, true, false, false, false, false, true, false, false, true, false, false, false, false] rfl rfl (by kernel_rfl) (fun _ _ _ h => h) (Or.inl ⟨by rfl, ?_⟩) ?_ ?_; rotate_left; (· intro w'; go_simp; (with_reducible rfl)); rotate_left; (· simp only [sp]; rfl)
                          refine pure_ (i := 10) (N := some 186) (v := undef) (a' := ?_) #[true, true, true, true, true, true, true, true, true, true, true, false, false, false, true, false, false, true, false, false, false, false] rfl rfl (by kernel_rfl) (fun _ _ _ h => h) (Or.inr ⟨by rfl, rfl⟩) ?_ ?_; rotate_left; (· simp only [sp]; rfl)
                          refine pure_ (i := 11) (N := some 187) (v := undef) (a' := ?_) #[true, true, true, true, true, true, true, true, true, true, true, true, false, false, true, false, false, true, false, false, false, false] rfl rfl (by kernel_rfl) (fun _ _ _ h => h) (Or.inr ⟨by rfl, rfl⟩) ?_ ?_; rotate_left; (· simp only [sp]; rfl)
                          refine pure_ (i := 12) (N := some 188) (v := undef) (a' := ?_) #[true, true, true, true, true, true, true, true, true, true, true, true, true, false, true, false, false, true, false, false, false, false] rfl rfl (by kernel_rfl) (fun _ _ _ h => h) (Or.inr ⟨by rfl, rfl⟩) ?_ ?_; rotate_left; (· simp only [sp]; rfl)
                          refine pure_ (i := 13) (N := some 189) (v := ?_) (a' := ?_) #[true, true, true, true, true, true, true, true, true, true, true, true, true, true, true, false, false, true, false, false, false, false] rfl rfl (by kernel_rfl) (fun _ _ _ h => h) (Or.inl ⟨by rfl, ?_⟩) ?_ ?_; rotate_left; (· intro w'; go_simp; (with_reducible rfl)); rotate_left; (· simp only [sp]; rfl)
                          refine take_ (i := 15) (N := some 191) (v := ?_) (a' := ?_) #[true, true, true, true, true, true, true, true, true, true, true, true, true, true, true, true, false, true, false, false, false, false] rfl rfl (by kernel_rfl) (fun _ _ _ h => h) (Or.inl ⟨by rfl, ?_⟩) hHeld ?_ ?_; rotate_left; (· rintro w' ⟨s0, s1, s2, s3, s4, s5⟩; go_simp; (with_reducible rfl)); rotate_left; (· simp only [sp]; rfl)
                          refine take_ (i := 18) (N := some 194) (v := ?_) (a' := ?_) #[true, true, true, true, true, true, true, true, true, true, true, true, true, true, true, true, false, true, true, false, false, false] rfl rfl (by kernel_rfl) (fun _ _ _ h => h) (Or.inl ⟨by rfl, ?_⟩) hHeld ?_ ?_; rotate_left; (· rintro w' ⟨s0, s1, s2, s3, s4, s5⟩; go_simp; (with_reducible rfl)); rotate_left; (· simp only [sp]; rfl)
                          refine one_ (i := 16) (N := some 192) #[true, true, true, true, true, true, true, true, true, true, true, true, true, true, true, true, true, true, true, false, false, false] rfl rfl (by kernel_rfl) (by decide) (fun K hK => ?_)
                          refine goes_ Tryd.func122 (by kernel_rfl) rfl #[.int .i64 xm] (by rfl) rfl rfl (by simp only [List.map_toArray, List.map_cons, List.map_nil]; rfl) ?_
                          with_reducible refine (half_any _ _).mono ?_
                          rintro e wz ⟨rfl, rfl⟩
                          refine ⟨_, rfl, ?_⟩
                          refine hK.out _ _ ⟨HD.out.1.b0, HD.out.1.b1, HD.out.2.1.1, HD.out.2.1.2, HD.out.2.2.1, HD.out.2.2.2⟩ (fun hHeld => ?_)
                          clear hK K
                          refine norm_ (a' := ?_) ?_ ?_
                          rotate_left
                          · show Act.put _ (some 192) _ = _
                            simp only [sp]
                            rfl
                          refine one_ (i := 19) (N := some 195) #[true, true, true, true, true, true, true, true, true, true, true, true, true, true, true, true, true, true, true, true, false, false] rfl rfl (by kernel_rfl) (by decide) (fun K hK => ?_)
                          refine goes_ Tryd.func122 (by kernel_rfl) rfl #[.int .i64 ym] (by rfl) rfl rfl (by simp only [List.map_toArray, List.map_cons, List.map_nil]; rfl) ?_
                          with_reducible refine (half_any _ _).mono ?_
                          rintro e wz ⟨rfl, rfl⟩
                          refine ⟨_, rfl, ?_⟩
                          refine hK.out _ _ ⟨HD.out.1.b0, HD.out.1.b1, HD.out.2.1.1, HD.out.2.1.2, HD.out.2.2.1, HD.out.2.2.2⟩ (fun hHeld => ?_)
                          clear hK K
                          refine norm_ (a' := ?_) ?_ ?_
                          rotate_left
                          · show Act.put _ (some 195) _ = _
                            simp only [sp]
                            rfl
                          refine pure_ (i := 20) (N := some 196) (v := ?_) (a' := ?_) #[true, true, true, true, true, true, true, true, true, true, true, true, true, true, true, true, true, true, true, true, true, false] rfl rfl (by kernel_rfl) (fun _ _ _ h => h) (Or.inl ⟨by rfl, ?_⟩) ?_ ?_; rotate_left; (· intro w'; go_simp; (with_reducible rfl)); rotate_left; (· simp only [sp]; rfl)
                          refine last_ (i := 21) (N := some 197) #[true, true, true, true, true, true, true, true, true, true, true, true, true, true, true, true, true, true, true, true, true, true] rfl rfl (by kernel_rfl) (by decide) (fun K hK => ?_)
                          refine goes_ Tryd.func123 (by kernel_rfl) rfl #[.agg #[.int .i64 N, .slice (some ⟨g, 0, none⟩) len c1], .int .i64 i, .int .i64 j, .bool false, .int .i64 (wrap64 (xm / 2 + ym / 2))] (by rfl) rfl rfl (by simp only [List.map_toArray, List.map_cons, List.map_nil]; rfl) ?_
                          with_reducible refine (CW.least (w := w) (L := LJ) HD.out.1 q i j HN.out hn Hl.out hlt2 hlt3 _ _).mono ?_
                          rintro e w2 ⟨rfl, h2, hbut⟩
                          refine ⟨_, rfl, ?_⟩
                          refine hK.out _ _ ?_
                          clear hK K
                          refine norm_ (a' := ?_) ?_ ?_
                          rotate_left
                          · show Act.put _ (some 197) _ = _
                            simp only [sp]
                            rfl
                          refine done_ (by kernel_rfl) ?_
                          have H2 := Lib.hid h2
                          clear h2 hHeld HD
                          go_wp2
                          go_roundg (gk - 1)
                          case measure => omega
                          case rel => exact ⟨j + 1, by omega, by omega, by go_num, by show CW _ _ _ _ _ _ _; rw [HJ.out, HX.out]; simp only [Bool.false_and]; exact H2.out⟩
                       | true =>
                         cases yh with
                         | false =>
                           as_aux_lemma =>
                            refine start_ (n := 22) (S := fun w' => w'.cell? ⟨w.heap.size, 0, none⟩ = some (.int .i64 N) ∧ w'.cell? ⟨w.heap.size, 1, none⟩ = some (.slice (some ⟨g, 0, none⟩) len c1) ∧ w'.cell? ⟨pa, 0, none⟩ = some (.bool true) ∧ w'.cell? ⟨pa, 1, none⟩ = some (.int .i64 xm) ∧ w'.cell? ⟨pb, 0, none⟩ = some (.bool false) ∧ w'.cell? ⟨pb, 1, none⟩ = some (.int .i64 ym)) (ds := [21]) #[false, false, false, false, false, false, false, false, false, false, false, false, false, false, false, false, false, false, false, false, false, false] (by kernel_rfl) rfl rfl ⟨HD.out.1.b0, HD.out.1.b1, HD.out.2.1.1, HD.out.2.1.2, HD.out.2.2.1, HD.out.2.2.2⟩ (fun hHeld => ?_)
                            generalize wc.drew = wd at HD hHeld ⊢
                            refine pure_ (i := 1) (N := some 177) (v := ?_) (a' := ?_) #[false, true, false, false, false, false, false, false, false, false, false, false, false, false, false, false, false, false, false, false, false, false] rfl rfl (by kernel_rfl) (fun _ _ _ h => h) (Or.inl ⟨by rfl, ?_⟩) ?_ ?_; rotate_left; (· intro w'; go_simp; (with_reducible rfl)); rotate_left; (· simp only [sp]; rfl)
                            refine pure_ (i := 2) (N := some 178) (v := ?_) (a' := ?_) #[false, true, true, false, false, false, false, false, false, false, false, false, false, false, false, false, false, false, false, false, false, false] rfl rfl (by kernel_rfl) (fun _ _ _ h => h) (Or.inl ⟨by rfl, ?_⟩) ?_ ?_; rotate_left; (· intro w'; go_simp; (with_reducible rfl)); rotate_left; (· simp only [sp]; rfl)
                            refine pure_ (i := 3) (N := some 179) (v := ?_) (a' := ?_) #[false, true, true, true, false, false, false, false, false, false, false, false, false, false, false, false, false, false, false, false, false, false] rfl rfl (by kernel_rfl) (fun _ _ _ h => h) (Or.inl ⟨by rfl, ?_⟩) ?_ ?_; rotate_left; (· intro w'; go_simp; (with_reducible rfl)); rotate_left; (· simp only [sp]; rfl)
                            refine pure_ (i := 14) (N := some 190) (v := ?_) (a' := ?_) #[false, true, true, true, false, false, false, false, false, false, false, false, false, false, true, false, false, false, false, false, false, false] rfl rfl (by kernel_rfl) (fun _ _ _ h => h) (Or.inl ⟨by rfl, ?_⟩) ?_ ?_; rotate_left; (· intro w'; go_simp; (with_reducible rfl)); rotate_left; (· simp only [sp]; rfl)
                            refine pure_ (i := 17) (N := some 193) (v := ?_) (a' := ?_) #[false, true, true, true, false, false, false, false, false, false, false, false, false, false, true, false, false, true, false, false, false, false] rfl rfl (by kernel_rfl) (fun _ _ _ h => h) (Or.inl ⟨by rfl, ?_⟩) ?_ ?_; rotate_left; (· intro w'; go_simp; (with_reducible rfl)); rotate_left; (· simp only [sp]; rfl)
                            refine take_ (i := 0) (N := some 176) (v := ?_) (a' := ?_) #[true, true, true, true, false, false, false, false, false, false, false, false, false, false, true, false, false, true, false, false, false, false] rfl rfl (by kernel_rfl) (fun _ _ _ h => h) (Or.inl ⟨by rfl, ?_⟩) hHeld ?_ ?_; rotate_left; (· rintro w' ⟨s0, s1, s2, s3, s4, s5⟩; go_simp; (with_reducible rfl)); rotate_left; (· simp only [sp]; rfl)
                            refine take_ (i := 4) (N := some 180) (v := ?_) (a' := ?_) #[true, true, true, true, true, false, false, false, false, false, false, false, false, false, true, false, false, true, false, false, false, false] rfl rfl (by kernel_rfl) (fun _ _ _ h => h) (Or.inl ⟨by rfl, ?_⟩) hHeld ?_ ?_; rotate_left; (· rintro w' ⟨s0, s1, s2, s3, s4, s5⟩; go_simp; (with_reducible rfl)); rotate_left; (· simp only [sp]; rfl)
                            refine pure_ (i := 5) (N := some 181) (v := ?_) (a' := ?_) #[true, true, true, true, true, true, false, false, false, false, false, false, false, false, true, false, false, true, false, false, false, false] rfl rfl (by kernel_rfl) (fun _ _ _ h => h) (Or.inl ⟨by rfl, ?_⟩) ?_ ?_; rotate_left; (· intro w'; go_simp; (with_reducible rfl)); rotate_left; (· simp only [sp]; rfl)
                            refine pure_ (i := 6) (N := some 182) (v := ?_) (a' := ?_) #[true, true, true, true, true, true, true, false, false, false, false, false, false, false, true, false, false, true, false, false, false, false] rfl rfl (by kernel_rfl) (fun _ _ _ h => h) (Or.inl ⟨by rfl, ?_⟩) ?_ ?_; rotate_left; (· intro w'; go_simp; (with_reducible rfl)); rotate_left; (· simp only [sp]; rfl)
                            refine take_ (i := 7) (N := some 183) (v := ?_) (a' := ?_) #[true, true, true, true, true, true, true, true, false, false, false, false, false, false, true, false, false, true, false, false, false, false] rfl rfl (by kernel_rfl) (fun _ _ _ h => h) (Or.inl ⟨by rfl, ?_⟩) hHeld ?_ ?_; rotate_left; (· rintro w' ⟨s0, s1, s2, s3, s4, s5⟩; go_simp; (with_reducible rfl)); rotate_left; (· simp only [sp]; rfl)
                            refine pure_ (i := 8) (N := some 184) (v := ?_) (a' := ?_) #[true, true, true, true, true, true, true, true, true, false, false, false, false, false, true, false, false, true, false, false, false, false] rfl rfl (by kernel_rfl) (fun _ _ _ h => h) (Or.inl ⟨by rfl, ?_⟩) ?_ ?_; rotate_left; (· intro w'; go_simp; (with_reducible rfl)); rotate_left; (· simp only [sp]; rfl)
                            refine pure_ (i := 9) (N := some 185) (v := ?_) (a' := ?_) #[true, true, true, true, true, true, true, true, true, true, false, false, false, false, true, false, false, true, false, false, false, false] rfl rfl (by kernel_rfl) (fun _ _ _ h => h) (Or.inl ⟨by rfl, ?_⟩) ?_ ?_; rotate_left; (· intro w'; go_simp; (with_reducible rfl)); rotate_left; (· simp only [sp]; rfl)
                            refine pure_ (i := 10) (N := some 186) (v := undef) (a' := ?_) #[true, true, true, true, true, true, true, true, true, true, true, false, false, false, true, false, false, true, false, false, false, false] rfl rfl (by kernel_rfl) (fun _ _ _ h => h) (Or.inr ⟨by rfl, rfl⟩) ?_ ?_; rotate_left; (· simp only [sp]; rfl)
                            refine pure_ (i := 11) (N := some 187) (v := undef) (a' := ?_) #[true, true, true, true, true, true, true, true, true, true, true, true, false, false, true, false, false, true, false, false, false, false] rfl rfl (by kernel_rfl) (fun _ _ _ h => h) (Or.inr ⟨by rfl, rfl⟩) ?_ ?_; rotate_left; (· simp only [sp]; rfl)
                            refine pure_ (i := 12) (N := some 188) (v := undef) (a' := ?_) #[true, true, true, true, true, true, true, true, true, true, true, true, true, false, true, false, false, true, false, false, false, false] rfl rfl (by kernel_rfl) (fun _ _ _ h => h) (Or.inr ⟨by rfl, rfl⟩) ?_ ?_; rotate_left; (· simp only [sp]; rfl)
                            refine pure_ (i := 13) (N := some 189) (v := ?_) (a' := ?_) #[true, true, true, true, true, true, true, true, true, true, true, true, true, true, true, false, false, true, false, false, false, false] rfl rfl (by kernel_rfl) (fun _ _ _ h => h) (Or.inl ⟨by rfl, ?_⟩) ?_ ?_; rotate_left; (· intro w'; go_simp; (with_reducible rfl)); rotate_left; (· simp only [sp]; rfl)
                            refine take_ (i := 15) (N := some 191) (v := ?_) (a' := ?_) #[true, true, true, true, true, true, true, true, true, true, true, true, true, true, true, true, false, true, false, false, false, false] rfl rfl (by kernel_rfl) (fun _ _ _ h => h) (Or.inl ⟨by rfl, ?_⟩) hHeld ?_ ?_; rotate_left; (· rintro w' ⟨s0, s1, s2, s3, s4, s5⟩; go_simp; (with_reducible rfl)); rotate_left; (· simp only [sp]; rfl)
                            refine take_ (i := 18) (N := some 194) (v := ?_) (a' := ?_) #[true, true, true, true, true, true, true, true, true, true, true, true, true, true, true, true, false, true, true, false, false, false] rfl rfl (by kernel_rfl) (fun _ _ _ h => h) (Or.inl ⟨by rfl, ?_⟩) hHeld ?_ ?_; rotate_left; (· rintro w' ⟨s0, s1, s2, s3, s4, s5⟩; go_simp; (with_reducible rfl)); rotate_left; (· simp only [sp]; rfl)
                            refine one_ (i := 16) (N := some 192) #[true, true, true, true, true, true, true, true, true, true, true, true, true, true, true, true, true, true, true, false, false, false] rfl rfl (by kernel_rfl) (by decide) (fun K hK => ?_)
                            refine goes_ Tryd.func122 (by kernel_rfl) rfl #[.int .i64 xm] (by rfl) rfl rfl (by simp only [List.map_toArray, List.map_cons, List.map_nil]; rfl) ?_
                            with_reducible refine (half_any _ _).mono ?_
                            rintro e wz ⟨rfl, rfl⟩
                            refine ⟨_, rfl, ?_⟩
                            refine hK.out _ _ ⟨HD.out.1.b0, HD.out.1.b1, HD.out.2.1.1, HD.out.2.1.2, HD.out.2.2.1, HD.out.2.2.2⟩ (fun hHeld => ?_)
                            clear hK K
                            refine norm_ (a' := ?_) ?_ ?_
                            rotate_left
                            · show Act.put _ (some 192) _ = _
                              simp only [sp]
                              rfl
                            refine one_ (i := 19) (N := some 195) #[true, true, true, true, true, true, true, true, true, true, true, true, true, true, true, true, true, true, true, true, false, false] rfl rfl (by kernel_rfl) (by decide) (fun K hK => ?_)
                            refine goes_ Tryd.func122 (by kernel_rfl) rfl #[.int .i64 ym] (by rfl) rfl rfl (by simp only [List.map_toArray, List.map_cons, List.map_nil]; rfl) ?_
                            with_reducible refine (half_any _ _).mono ?_
                            rintro e wz ⟨rfl, rfl⟩
                            refine ⟨_, rfl, ?_⟩
                            refine hK.out _ _ ⟨HD.out.1.b0, HD.out.1.b1, HD.out.2.1.1, HD.out.2.1.2, HD.out.2.2.1, HD.out.2.2.2⟩ (fun hHeld => ?_)
                            clear hK K
                            refine norm_ (a' := ?_) ?_ ?_
                            rotate_left
                            · show Act.put _ (some 195) _ = _
                              simp only [sp]
                              rfl
                            refine pure_ (i := 20) (N := some 196) (v := ?_) (a' := ?_) #[true, true, true, true, true, true, true, true, true, true, true, true, true, true, true, true, true, true, true, true, true, false] rfl rfl (by kernel_rfl) (fun _ _ _ h => h) (Or.inl ⟨by rfl, ?_⟩) ?_ ?_; rotate_left; (· intro w'; go_simp; (with_reducible rfl)); rotate_left; (· simp only [sp]; rfl)
                            refine last_ (i := 21) (N := some 197) #[true, true, true, true, true, true, true, true, true, true, true, true, true, true, true, true, true, true, true, true, true, true] rfl rfl (by kernel_rfl) (by decide) (fun K hK => ?_)
                            refine goes_ Tryd.func123 (by kernel_rfl) rfl #[.agg #[.int .i64 N, .slice (some ⟨g, 0, none⟩) len c1], .int .i64 i, .int .i64 j, .bool false, .int .i64 (wrap64 (xm / 2 + ym / 2))] (by rfl) rfl rfl (by simp only [List.map_toArray, List.map_cons, List.map_nil]; rfl) ?_
                            with_reducible refine (CW.least (w := w) (L := LJ) HD.out.1 q i j HN.out hn Hl.out hlt2 hlt3 _ _).mono ?_
                            rintro e w2 ⟨rfl, h2, hbut⟩
                            refine ⟨_, rfl, ?_⟩
                            refine hK.out _ _ ?_
                            clear hK K
                            refine norm_ (a' := ?_) ?_ ?_
                            rotate_left
                            · show Act.put _ (some 197) _ = _
                              simp only [sp]
                              rfl
                            refine done_ (by kernel_rfl) ?_
                            have H2 := Lib.hid h2
                            clear h2 hHeld HD
                            go_wp2
                            go_roundg (gk - 1)
                            case measure => omega
                            case rel => exact ⟨j + 1, by omega, by omega, by go_num, by show CW _ _ _ _ _ _ _; rw [HJ.out, HX.out]; simp only [Bool.true_and, Bool.false_and]; exact H2.out⟩
                         | true =>
                           obtain ⟨bb, hne, hij⟩ : ∃ bb : Bool, ((i : Int) != (j : Int)) = bb ∧ decide (i ≠ j) = bb := ⟨_, rfl, by by_cases e : i = j <;> simp [e] <;> omega⟩
                           have HIJ := Lib.hid hij
                           clear hij
                           as_aux_lemma =>
                            refine start_ (n := 22) (S := fun w' => w'.cell? ⟨w.heap.size, 0, none⟩ = some (.int .i64 N) ∧ w'.cell? ⟨w.heap.size, 1, none⟩ = some (.slice (some ⟨g, 0, none⟩) len c1) ∧ w'.cell? ⟨pa, 0, none⟩ = some (.bool true) ∧ w'.cell? ⟨pa, 1, none⟩ = some (.int .i64 xm) ∧ w'.cell? ⟨pb, 0, none⟩ = some (.bool true) ∧ w'.cell? ⟨pb, 1, none⟩ = some (.int .i64 ym)) (ds := [21]) #[false, false, false, false, false, false, false, false, false, false, false, false, false, false, false, false, false, false, false, false, false, false] (by kernel_rfl) rfl rfl ⟨HD.out.1.b0, HD.out.1.b1, HD.out.2.1.1, HD.out.2.1.2, HD.out.2.2.1, HD.out.2.2.2⟩ (fun hHeld => ?_)
                            generalize wc.drew = wd at HD hHeld ⊢
                            refine pure_ (i := 1) (N := some 177) (v := ?_) (a' := ?_) #[false, true, false, false, false, false, false, false, false, false, false, false, false, false, false, false, false, false, false, false, false, false] rfl rfl (by kernel_rfl) (fun _ _ _ h => h) (Or.inl ⟨by rfl, ?_⟩) ?_ ?_; rotate_left; (· intro w'; go_simp; (with_reducible rfl)); rotate_left; (· simp only [sp]; rfl)
                            refine pure_ (i := 2) (N := some 178) (v := ?_) (a' := ?_) #[false, true, true, false, false, false, false, false, false, false, false, false, false, false, false, false, false, false, false, false, false, false] rfl rfl (by kernel_rfl) (fun _ _ _ h => h) (Or.inl ⟨by rfl, ?_⟩) ?_ ?_; rotate_left; (· intro w'; go_simp; (with_reducible rfl)); rotate_left; (· simp only [sp]; rfl)
                            refine pure_ (i := 3) (N := some 179) (v := ?_) (a' := ?_) #[false, true, true, true, false, false, false, false, false, false, false, false, false, false, false, false, false, false, false, false, false, false] rfl rfl (by kernel_rfl) (fun _ _ _ h => h) (Or.inl ⟨by rfl, ?_⟩) ?_ ?_; rotate_left; (· intro w'; go_simp; (with_reducible rfl)); rotate_left; (· simp only [sp]; rfl)
                            refine pure_ (i := 14) (N := some 190) (v := ?_) (a' := ?_) #[false, true, true, true, false, false, false, false, false, false, false, false, false, false, true, false, false, false, false, false, false, false] rfl rfl (by kernel_rfl) (fun _ _ _ h => h) (Or.inl ⟨by rfl, ?_⟩) ?_ ?_; rotate_left; (· intro w'; go_simp; (with_reducible rfl)); rotate_left; (· simp only [sp]; rfl)
                            refine pure_ (i := 17) (N := some 193) (v := ?_) (a' := ?_) #[false, true, true, true, false, false, false, false, false, false, false, false, false, false, true, false, false, true, false, false, false, false] rfl rfl (by kernel_rfl) (fun _ _ _ h => h) (Or.inl ⟨by rfl, ?_⟩) ?_ ?_; rotate_left; (· intro w'; go_simp; (with_reducible rfl)); rotate_left; (· simp only [sp]; rfl)
                            refine take_ (i := 0) (N := some 176) (v := ?_) (a' := ?_) #[true, true, true, true, false, false, false, false, false, false, false, false, false, false, true, false, false, true, false, false, false, false] rfl rfl (by kernel_rfl) (fun _ _ _ h => h) (Or.inl ⟨by rfl, ?_⟩) hHeld ?_ ?_; rotate_left; (· rintro w' ⟨s0, s1, s2, s3, s4, s5⟩; go_simp; (with_reducible rfl)); rotate_left; (· simp only [sp]; rfl)
                            refine take_ (i := 4) (N := some 180) (v := ?_) (a' := ?_) #[true, true, true, true, true, false, false, false, false, false, false, false, false, false, true, false, false, true, false, false, false, false] rfl rfl (by kernel_rfl) (fun _ _ _ h => h) (Or.inl ⟨by rfl, ?_⟩) hHeld ?_ ?_; rotate_left; (· rintro w' ⟨s0, s1, s2, s3, s4, s5⟩; go_simp; (with_reducible rfl)); rotate_left; (· simp only [sp]; rfl)
                            refine pure_ (i := 5) (N := some 181) (v := ?_) (a' := ?_) #[true, true, true, true, true, true, false, false, false, false, false, false, false, false, true, false, false, true, false, false, false, false] rfl rfl (by kernel_rfl) (fun _ _ _ h => h) (Or.inl ⟨by rfl, ?_⟩) ?_ ?_; rotate_left; (· intro w'; go_simp; (with_reducible rfl)); rotate_left; (· simp only [sp]; rfl)
                            refine pure_ (i := 6) (N := some 182) (v := ?_) (a' := ?_) #[true, true, true, true, true, true, true, false, false, false, false, false, false, false, true, false, false, true, false, false, false, false] rfl rfl (by kernel_rfl) (fun _ _ _ h => h) (Or.inl ⟨by rfl, ?_⟩) ?_ ?_; rotate_left; (· intro w'; go_simp; (with_reducible rfl)); rotate_left; (· simp only [sp]; rfl)
                            refine take_ (i := 7) (N := some 183) (v := ?_) (a' := ?_) #[true, true, true, true, true, true, true, true, false, false, false, false, false, false, true, false, false, true, false, false, false, false] rfl rfl (by kernel_rfl) (fun _ _ _ h => h) (Or.inl ⟨by rfl, ?_⟩) hHeld ?_ ?_; rotate_left; (· rintro w' ⟨s0, s1, s2, s3, s4, s5⟩; go_simp; (with_reducible rfl)); rotate_left; (· simp only [sp]; rfl)
                            refine pure_ (i := 8) (N := some 184) (v := ?_) (a' := ?_) #[true, true, true, true, true, true, true, true, true, false, false, false, false, false, true, false, false, true, false, false, false, false] rfl rfl (by kernel_rfl) (fun _ _ _ h => h) (Or.inl ⟨by rfl, ?_⟩) ?_ ?_; rotate_left; (· intro w'; go_simp; (with_reducible rfl)); rotate_left; (· simp only [sp]; rfl)
                            refine pure_ (i := 9) (N := some 185) (v := ?_) (a' := ?_) #[true, true, true, true, true, true, true, true, true, true, false, false, false, false, true, false, false, true, false, false, false, false] rfl rfl (by kernel_rfl) (fun _ _ _ h => h) (Or.inl ⟨by rfl, ?_⟩) ?_ ?_; rotate_left; (· intro w'; go_simp; (with_reducible rfl)); rotate_left; (· simp only [sp]; rfl)
                            refine pure_ (i := 10) (N := some 186) (v := ?_) (a' := ?_) #[true, true, true, true, true, true, true, true, true, true, true, false, false, false, true, false, false, true, false, false, false, false] rfl rfl (by kernel_rfl) (fun _ _ _ h => h) (Or.inl ⟨by rfl, ?_⟩) ?_ ?_; rotate_left; (· intro w'; go_simp; (with_reducible rfl)); rotate_left; (· simp only [sp]; rfl)
                            refine pure_ (i := 11) (N := some 187) (v := ?_) (a' := ?_) #[true, true, true, true, true, true, true, true, true, true, true, true, false, false, true, false, false, true, false, false, false, false] rfl rfl (by kernel_rfl) (fun _ _ _ h => h) (Or.inl ⟨by rfl, ?_⟩) ?_ ?_; rotate_left; (· intro w'; go_simp; (with_reducible rfl)); rotate_left; (· simp only [sp]; rfl)
                            refine pure_ (i := 12) (N := some 188) (v := ?_) (a' := ?_) #[true, true, true, true, true, true, true, true, true, true, true, true, true, false, true, false, false, true, false, false, false, false] rfl rfl (by kernel_rfl) (fun _ _ _ h => h) (Or.inl ⟨by rfl, ?_⟩) ?_ ?_; rotate_left; (· intro w'; go_simp; (with_reducible rfl)); rotate_left; (· simp only [sp]; rfl)
                            refine pure_ (i := 13) (N := some 189) (v := ?_) (a' := ?_) #[true, true, true, true, true, true, true, true, true, true, true, true, true, true, true, false, false, true, false, false, false, false] rfl rfl (by kernel_rfl) (fun _ _ _ h => h) (Or.inl ⟨by rfl, ?_⟩) ?_ ?_; rotate_left; (· intro w'; go_simp; (with_reducible rfl)); rotate_left; (· simp only [sp]; rfl)
                            refine take_ (i := 15) (N := some 191) (v := ?_) (a' := ?_) #[true, true, true, true, true, true, true, true, true, true, true, true, true, true, true, true, false, true, false, false, false, false] rfl rfl (by kernel_rfl) (fun _ _ _ h => h) (Or.inl ⟨by rfl, ?_⟩) hHeld ?_ ?_; rotate_left; (· rintro w' ⟨s0, s1, s2, s3, s4, s5⟩; go_simp; (with_reducible rfl)); rotate_left; (· simp only [sp]; rfl)
                            refine take_ (i := 18) (N := some 194) (v := ?_) (a' := ?_) #[true, true, true, true, true, true, true, true, true, true, true, true, true, true, true, true, false, true, true, false, false, false] rfl rfl (by kernel_rfl) (fun _ _ _ h => h) (Or.inl ⟨by rfl, ?_⟩) hHeld ?_ ?_; rotate_left; (· rintro w' ⟨s0, s1, s2, s3, s4, s5⟩; go_simp; (with_reducible rfl)); rotate_left; (· simp only [sp]; rfl)
                            refine one_ (i := 16) (N := some 192) #[true, true, true, true, true, true, true, true, true, true, true, true, true, true, true, true, true, true, true, false, false, false] rfl rfl (by kernel_rfl) (by decide) (fun K hK => ?_)
                            refine goes_ Tryd.func122 (by kernel_rfl) rfl #[.int .i64 xm] (by rfl) rfl rfl (by simp only [List.map_toArray, List.map_cons, List.map_nil]; rfl) ?_
                            with_reducible refine (half_any _ _).mono ?_
                            rintro e wz ⟨rfl, rfl⟩
                            refine ⟨_, rfl, ?_⟩
                            refine hK.out _ _ ⟨HD.out.1.b0, HD.out.1.b1, HD.out.2.1.1, HD.out.2.1.2, HD.out.2.2.1, HD.out.2.2.2⟩ (fun hHeld => ?_)
                            clear hK K
                            refine norm_ (a' := ?_) ?_ ?_
                            rotate_left
                            · show Act.put _ (some 192) _ = _
                              simp only [sp]
                              rfl
                            refine one_ (i := 19) (N := some 195) #[true, true, true, true, true, true, true, true, true, true, true, true, true, true, true, true, true, true, true, true, false, false] rfl rfl (by kernel_rfl) (by decide) (fun K hK => ?_)
                            refine goes_ Tryd.func122 (by kernel_rfl) rfl #[.int .i64 ym] (by rfl) rfl rfl (by simp only [List.map_toArray, List.map_cons, List.map_nil]; rfl) ?_
                            with_reducible refine (half_any _ _).mono ?_
                            rintro e wz ⟨rfl, rfl⟩
                            refine ⟨_, rfl, ?_⟩
                            refine hK.out _ _ ⟨HD.out.1.b0, HD.out.1.b1, HD.out.2.1.1, HD.out.2.1.2, HD.out.2.2.1, HD.out.2.2.2⟩ (fun hHeld => ?_)
                            clear hK K
                            refine norm_ (a' := ?_) ?_ ?_
                            rotate_left
                            · show Act.put _ (some 195) _ = _
                              simp only [sp]
                              rfl
                            refine pure_ (i := 20) (N := some 196) (v := ?_) (a' := ?_) #[true, true, true, true, true, true, true, true, true, true, true, true, true, true, true, true, true, true, true, true, true, false] rfl rfl (by kernel_rfl) (fun _ _ _ h => h) (Or.inl ⟨by rfl, ?_⟩) ?_ ?_; rotate_left; (· intro w'; go_simp; (with_reducible rfl)); rotate_left; (· simp only [sp]; rfl)
                            refine last_ (i := 21) (N := some 197) #[true, true, true, true, true, true, true, true, true, true, true, true, true, true, true, true, true, true, true, true, true, true] rfl rfl (by kernel_rfl) (by decide) (fun K hK => ?_)
                            refine goes_ Tryd.func123 (by kernel_rfl) rfl #[.agg #[.int .i64 N, .slice (some ⟨g, 0, none⟩) len c1], .int .i64 i, .int .i64 j, .bool bb, .int .i64 (wrap64 (xm / 2 + ym / 2))] (by rfl) rfl rfl (by simp only [List.map_toArray, List.map_cons, List.map_nil]; rfl) ?_
                            with_reducible refine (CW.least (w := w) (L := LJ) HD.out.1 q i j HN.out hn Hl.out hlt2 hlt3 _ _).mono ?_
                            rintro e w2 ⟨rfl, h2, hbut⟩
                            refine ⟨_, rfl, ?_⟩
                            refine hK.out _ _ ?_
                            clear hK K
                            refine norm_ (a' := ?_) ?_ ?_
                            rotate_left
                            · show Act.put _ (some 197) _ = _
                              simp only [sp]
                              rfl
                            refine done_ (by kernel_rfl) ?_
                            have H2 := Lib.hid h2
                            clear h2 hHeld HD
                            go_wp2
                            go_roundg (gk - 1)
                            case measure => omega
                            case rel => exact ⟨j + 1, by omega, by omega, by go_num, by show CW _ _ _ _ _ _ _; rw [HJ.out, HX.out, HIJ.out]; exact H2.out⟩
              case rest =>
                as_aux_lemma =>
                 clear HV
                 have HP2 := hcut
                 clear hcut
                 generalize strong q H = P2 at HP2 HC3
                 have b1 := HP2.out.b1
                 have hpl : len = P2.length := HP2.out.ln
                 have HPL := Lib.hid hpl
                 clear hpl
                 go_wp2
                 go_loopw [203] (fun v wr => ∃ k2 : Nat, k2 ≤ len ∧ v = .int .i64 k2 ∧ Hid (CW w N g len c1 (rep clipAt k2 P2) wr)) (fun v _ => len - (intOf v).toNat)
                 case atStart => exact ⟨0, Nat.zero_le _, rfl, HP2⟩
                 case round =>
                   obtain ⟨z, hz, rfl, HV2⟩ := hrel
                   clear HP2 b1
                   by_cases hlt2 : z < len
                   · have HS : Hid (rep clipAt (z + 1) P2 = clipAt (rep clipAt z P2) z) := rfl
                     have hql : len = (rep clipAt z P2).length := HV2.out.ln
                     have HQL := Lib.hid hql
                     clear hql
                     generalize rep clipAt z P2 = LQ at HV2 HS HQL
                     have b1 := HV2.out.b1
                     have c0 := HV2.out.row.at0 HV2.out.ln hlt2
                     have cm := HV2.out.row.at1 HV2.out.ln hlt2
                     have fr0 := HV2.out.row.free HV2.out.ln (z * 2)
                     have fr1 := HV2.out.row.free HV2.out.ln (z * 2 + 1)
                     have HA : Hid (clipAt LQ z = LQ.set z (clipC (cg LQ z))) := rfl
                     have HSelf := Lib.hid (set_self LQ z)
                     have HPut := Lib.hid (fun a m => HV2.out.row.put HV2.out.ln z a m)
                     have HPut1 := Lib.hid (fun m => HV2.out.row.put1 HV2.out.ln z m)
                     generalize cg LQ z = X at c0 cm HA HPut1 HSelf
                     obtain ⟨xh, xm⟩ := X
                     simp only at c0 cm
                     by_cases h1 : (1099511627776 : Int) < xm
                     · have h1' : decide ((1099511627776 : Int) < xm) = true := decide_eq_true h1
                       have HE : Hid (clipC ⟨xh, xm⟩ = ⟨false, 0⟩) := by
                         show clipC ⟨xh, xm⟩ = _
                         unfold clipC
                         rw [if_pos (by omega)]
                       go_wp2
                       exact ⟨⟨z + 1, by omega, by go_num, by show CW _ _ _ _ _ _ _; rw [HS.out, HA.out, HE.out]; exact HV2.out.turn (((But.refl g _).set _ _).set _ _) (HPut.out false 0) (by simp)⟩, by simp [intOf]; omega⟩
                     · have h1' : decide ((1099511627776 : Int) < xm) = false := decide_eq_false h1
                       by_cases h2 : xm < -1099511627776
                       · have h2' : decide (xm < -1099511627776) = true := decide_eq_true h2
                         have HE : Hid (clipC ⟨xh, xm⟩ = ⟨xh, -1099511627776⟩) := by
                           show clipC ⟨xh, xm⟩ = _
                           unfold clipC
                           rw [if_neg (by omega), if_pos (by omega)]
                         go_wp2
                         exact ⟨⟨z + 1, by omega, by go_num, by show CW _ _ _ _ _ _ _; rw [HS.out, HA.out, HE.out]; exact HV2.out.turn ((But.refl g _).set _ _) (HPut1.out (-1099511627776)) (by simp)⟩, by simp [intOf]; omega⟩
                       · have h2' : decide (xm < -1099511627776) = false := decide_eq_false h2
                         have HE : Hid (clipC ⟨xh, xm⟩ = ⟨xh, xm⟩) := by
                           show clipC ⟨xh, xm⟩ = _
                           unfold clipC
                           rw [if_neg (by omega), if_neg (by omega)]
                         go_wp2
                         exact ⟨⟨z + 1, by omega, by go_num, by show CW _ _ _ _ _ _ _; rw [HS.out, HA.out, HE.out, HSelf.out]; exact HV2.out⟩, by simp [intOf]; omega⟩
                   · obtain rfl : z = len := by omega
                     have b0 := HV2.out.b0
                     have b1 := HV2.out.b1
                     have r0 := HV2.out.r0
                     have r1 := HV2.out.r1
                     have f0 := HV2.out.f0
                     have f1 := HV2.out.f1
                     have HBl := Lib.hid HV2.out.below
                     have hlo := HV2.out.lo
                     have hgl := HV2.out.gl
                     have HRow : Hid (ZRow wr w.heap.size oC (.slice (some ⟨g, 0, none⟩) z c1) (P2.map clipC)) := by
                       have := HV2.out.row
                       show ZRow _ _ _ _ _
                       rwa [show rep clipAt z P2 = P2.map clipC by rw [HPL.out]; exact rep_clip_all P2] at this
                     go_wp2
                     refine bodyPost_ret (v := .tuple #[.agg #[.int .i64 N, .slice (some ⟨g, 0, none⟩) z c1], .bool true]) (by simp [results, Tryd.results105, go_sem, r0, r1, f0, f1]) rfl ⟨Go.Proofs.Rcn.below_set (Go.Proofs.Rcn.below_set HBl.out (by simp) _) (by simp) _, ?_⟩
                     rw [HC3.out]
                     exact ⟨_, _, rfl, (HRow.out.set (by omega) _ _).set (by omega) _ _⟩
theorem close_any (A : Option Addr) (n len c : Nat) (N : Int) (L : List Cel) (w : World) (hN : 2 * N = n) (hn : n ≤ 8) (hl : len = n * n) (hz : RCel w A len L) :
    Calls Tryd.prog 105 #[.agg #[.int .i64 N, .slice A len c]] w fun e w' => Below w.heap.size w w' ∧ ZPost N len w (closeO n L) e w' := by
  rcases Nat.eq_zero_or_pos n with h0 | h1
  · subst h0
    obtain rfl : N = 0 := by omega
    obtain rfl : len = 0 := by omega
    obtain rfl : L = [] := List.eq_nil_of_length_eq_zero hz.1
    exact close_zero A c w hz
  · exact close_some A n len c N L w hN h1 hn hl hz
theorem octagon_Octagon_close.calls [EA] (a0_0 : Int) (A0_1 : Option Addr) (c0_1 : Nat) (l0_1 : List OC) (r1 : Int) (r2 : List OC) (r3 : Bool) (w : World) (hr0_1 : Kd.C k146 w A0_1 l0_1.length l0_1) (hc0_1 : l0_1.length ≤ c0_1) (h : octagon_Octagon_close.f a0_0 l0_1 = some (r1, r2, r3)) :
    Calls Tryd.prog 105 #[.agg #[.int .i64 a0_0, .slice A0_1 l0_1.length c0_1]] w fun e w' => ∃ v1_ : Value, e = .returned (.tuple #[.agg #[.int .i64 r1, v1_], .bool r3]) ∧ Kd.R k146 146 w' w.heap.size (fun _ => True) v1_ r2 ∧ Below w.heap.size w w' := by
  unfold octagon_Octagon_close.f at h
  split at h
  · rename_i hl
    obtain ⟨h0, h4, hl⟩ := hl
    obtain ⟨n, hn⟩ : ∃ n : Nat, 2 * a0_0 = n := ⟨(2 * a0_0).toNat, by omega⟩
    have hln : l0_1.length = n * n := len_sq hn hl
    have en : (2 * a0_0).toNat = n := by omega
    simp only [Option.some.injEq] at h
    refine (close_any A0_1 n l0_1.length c0_1 a0_0 (ocels l0_1) w hn (by omega) hln (rcel_of_C hr0_1)).mono ?_
    rintro e w' ⟨hb, hz⟩
    unfold shutO at h
    rw [en] at h
    cases hC : closeO n (ocels l0_1) with
    | none =>
      rw [hC] at h hz
      simp only [Prod.mk.injEq] at h
      obtain ⟨rfl, rfl, rfl⟩ := h
      exact ⟨_, hz, R_nilZ _ _, hb⟩
    | some C =>
      rw [hC] at h hz
      simp only [Prod.mk.injEq] at h
      obtain ⟨rfl, rfl, rfl⟩ := h
      obtain ⟨A', c', rfl, hr⟩ := hz
      exact ⟨_, rfl, R_of_zrow hr, hb⟩
  · cases h
end Go.Proofs.Rco
