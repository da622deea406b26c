import Derived.Test.YtjpboodkmhikpaaDoorIv3
set_option linter.unusedVariables false
set_option linter.unusedSimpArgs false
namespace Go.Proofs.Rcn
open Go Go.RowKit

set_option maxRecDepth 100000 in
set_option maxHeartbeats 1000000 in
theorem ifar_no (x : Int) (w : World) (h : farB x = false) : Calls Tryd.prog 80 #[.int .i64 x] w fun e w' => e = .returned (.bool false) ∧ w = w' := by
  rw [farB_iff] at h
  obtain ⟨h1, h2⟩ := h
  have h3 : decide (1099511627776 < x) = false := by simp; omega
  have h4 : decide (x < -1099511627776) = false := by simp; omega
  go_enter Tryd.func80, Tryd.ntmps80
  go_wp2
  go_ret
  exact ⟨rfl, rfl⟩

def Cells4 (wr : World) (p : Nat) (o : Iv) : Prop :=
  wr.cell? ⟨p, 0, none⟩ = some (.bool o.down) ∧ wr.cell? ⟨p, 1, none⟩ = some (.bool o.up) ∧ wr.cell? ⟨p, 2, none⟩ = some (.int .i64 o.low) ∧ wr.cell? ⟨p, 3, none⟩ = some (.int .i64 o.high)
def Free4 (wr : World) (p : Nat) : Prop := wr.frozen? ⟨p, 0, none⟩ = false ∧ wr.frozen? ⟨p, 1, none⟩ = false ∧ wr.frozen? ⟨p, 2, none⟩ = false ∧ wr.frozen? ⟨p, 3, none⟩ = false
/-- What stands in the blocks of Widen's own: both intervals, the answer, what comes. -/
structure WidW (w : World) (a b : Iv) (p : Nat) (o : Iv) (wr : World) : Prop where
  below : Below w.heap.size w wr
  lo : w.heap.size + 1 + 1 < p
  hi : p < wr.heap.size
  ca : Cells4 wr w.heap.size a
  cb : Cells4 wr (w.heap.size + 1) b
  cr : Cells4 wr (w.heap.size + 1 + 1) zeroIv
  cp : Cells4 wr p o
  fr : Free4 wr (w.heap.size + 1 + 1)
  fp : Free4 wr p

theorem cell_two (w : World) (p q i j : Nat) (u : Value) (h : ¬ (q = p ∧ j = i)) : (w.setCell ⟨p, i, none⟩ u).cell? ⟨q, j, none⟩ = w.cell? ⟨q, j, none⟩ :=
  World.cell?_setCell_other w ⟨p, i, none⟩ ⟨q, j, none⟩ u (fun e => h (by simp at e; exact ⟨e.1.symm, e.2.symm⟩))
theorem frozen_set (w : World) (a q : Addr) (u : Value) : (w.setCell a u).frozen? q = w.frozen? q := by
  simp only [World.frozen?, World.setCell, Array.getElem?_modify]
  by_cases h : a.block = q.block
  · simp only [h, if_true]
    cases hq : w.heap[q.block]? with
    | none => simp
    | some o => cases o <;> simp <;> rfl
  · simp [h]


theorem Cells4.kept {wr : World} {q p i : Nat} {o : Iv} {u : Value} (h : Cells4 wr q o) (hq : q ≠ p) : Cells4 (wr.setCell ⟨p, i, none⟩ u) q o := by
  exact ⟨(cell_two _ _ _ _ _ _ (fun e => hq e.1)).trans h.1, (cell_two _ _ _ _ _ _ (fun e => hq e.1)).trans h.2.1, (cell_two _ _ _ _ _ _ (fun e => hq e.1)).trans h.2.2.1, (cell_two _ _ _ _ _ _ (fun e => hq e.1)).trans h.2.2.2⟩
theorem Free4.kept {wr : World} {q : Nat} {a : Addr} {u : Value} (h : Free4 wr q) : Free4 (wr.setCell a u) q := by
  exact ⟨(frozen_set ..).trans h.1, (frozen_set ..).trans h.2.1, (frozen_set ..).trans h.2.2.1, (frozen_set ..).trans h.2.2.2⟩
theorem WidW.setLow {w wr : World} {a b : Iv} {p : Nat} {o : Iv} (h : WidW w a b p o wr) (d : Bool) (l : Int) :
    WidW w a b p ⟨d, o.up, l, o.high⟩ ((wr.setCell ⟨p, 0, none⟩ (.bool d)).setCell ⟨p, 2, none⟩ (.int .i64 l)) := by
  have hlo := h.lo
  refine ⟨below_set (below_set h.below (by simp; omega) _) (by simp; omega) _, hlo, by simpa using h.hi, (h.ca.kept (by omega)).kept (by omega), (h.cb.kept (by omega)).kept (by omega), (h.cr.kept (by omega)).kept (by omega), ?_, h.fr.kept.kept, h.fp.kept.kept⟩
  refine ⟨?_, ?_, ?_, ?_⟩
  · rw [cell_two _ _ _ _ _ _ (by omega)]; exact World.cell?_setCell_same' _ _ _ (by rw [h.cp.1]; rfl)
  · rw [cell_two _ _ _ _ _ _ (by omega), cell_two _ _ _ _ _ _ (by omega)]; exact h.cp.2.1
  · exact World.cell?_setCell_same' _ _ _ (by rw [(cell_two _ _ _ _ _ _ (by omega)).trans h.cp.2.2.1]; rfl)
  · rw [cell_two _ _ _ _ _ _ (by omega), cell_two _ _ _ _ _ _ (by omega)]; exact h.cp.2.2.2
theorem WidW.setHigh {w wr : World} {a b : Iv} {p : Nat} {o : Iv} (h : WidW w a b p o wr) (u : Bool) (k : Int) :
    WidW w a b p ⟨o.down, u, o.low, k⟩ ((wr.setCell ⟨p, 1, none⟩ (.bool u)).setCell ⟨p, 3, none⟩ (.int .i64 k)) := by
  have hlo := h.lo
  refine ⟨below_set (below_set h.below (by simp; omega) _) (by simp; omega) _, hlo, by simpa using h.hi, (h.ca.kept (by omega)).kept (by omega), (h.cb.kept (by omega)).kept (by omega), (h.cr.kept (by omega)).kept (by omega), ?_, h.fr.kept.kept, h.fp.kept.kept⟩
  refine ⟨?_, ?_, ?_, ?_⟩
  · rw [cell_two _ _ _ _ _ _ (by omega), cell_two _ _ _ _ _ _ (by omega)]; exact h.cp.1
  · rw [cell_two _ _ _ _ _ _ (by omega)]; exact World.cell?_setCell_same' _ _ _ (by rw [h.cp.2.1]; rfl)
  · rw [cell_two _ _ _ _ _ _ (by omega), cell_two _ _ _ _ _ _ (by omega)]; exact h.cp.2.2.1
  · exact World.cell?_setCell_same' _ _ _ (by rw [(cell_two _ _ _ _ _ _ (by omega)).trans h.cp.2.2.2]; rfl)
theorem getD_take {xs : List Int} {j : Nat} (h : j < xs.length) {β : Type} (f : β → Int → β) (x : β) : (xs.take (j + 1)).foldl f x = f ((xs.take j).foldl f x) (xs.getD j 0) := by
  rw [List.take_succ_eq_append_getElem h, List.foldl_append]
  simp [List.getD_eq_getElem?_getD, List.getElem?_eq_getElem h]

set_option maxRecDepth 100000 in
set_option maxHeartbeats 4000000 in
theorem iWiden_ok (d u : Bool) (l k : Int) (d' u' : Bool) (l' k' : Int) (A : Option Addr) (n c : Nat) (xs : List Int) (w : World) (hv : ivValid ⟨d, u, l, k⟩ = 0) (hv' : ivValid ⟨d', u', l', k'⟩ = 0)
    (hx : RInts w A n xs) (hn : n ≤ 20) (hf : ∀ j, j < n → farB (xs.getD j 0) = false) :
    Calls Tryd.prog 27 #[.agg #[.bool d, .bool u, .int .i64 l, .int .i64 k], .agg #[.bool d', .bool u', .int .i64 l', .int .i64 k'], .slice A n c] w fun e w' =>
      e = .returned (.tuple #[ivV (ivWiden ⟨d, u, l, k⟩ ⟨d', u', l', k'⟩ xs), .nilIface]) ∧ Below w.heap.size w w' := by
  have HV := Lib.hid hv
  have HV' := Lib.hid hv'
  have HX := Lib.hid hx
  have HF := Lib.hid hf
  clear hv hv' hx hf
  go_enter Tryd.func27, Tryd.ntmps27
  go_wp2_with fail
  refine (itwo_ok d u l k d' u' l' k' _ HV.out HV'.out).mono ?_
  rintro e w1 ⟨rfl, hb1⟩
  obtain ⟨hc1, hf1⟩ := bcell hb1
  have hz1 : w.heap.size + 1 + 1 < w1.heap.size := by have := hb1.size; simp at this; omega
  have hz0 : w.heap.size + 1 < w1.heap.size := by omega
  have hz00 : w.heap.size < w1.heap.size := by omega
  have hB1 := below_then (below_alloc (below_alloc (below_alloc (Below.refl _ _) _) _) _) hb1
  have HX1 := Lib.hid (HX.out.below hB1)
  have HB1 := Lib.hid hB1
  clear hb1 hB1
  go_wp2_with fail
  go_loop [30] (fun i => ∃ j : Nat, j ≤ n ∧ i = .int .i64 j) (fun i => n - (intOf i).toNat)
  case atStart => exact ⟨0, Nat.zero_le _, rfl⟩
  case round =>
    obtain ⟨j, hj, rfl⟩ := hrel
    by_cases hlt : j < n
    · obtain ⟨g, o, rfl, hx⟩ := HX1.out.2 (by omega)
      have hxj := hx j hlt
      have hfj := HF.out j hlt
      clear hx
      go_wp2_with (go_at_call 80; refine (ifar_no _ _ hfj).mono ?_; rintro e w' ⟨rfl, rfl⟩)
      exact ⟨⟨j + 1, by omega, by go_num⟩, by simp [intOf]; omega⟩
    · obtain rfl : j = n := by omega
      go_upto_region 13 with fail
      have H0 : WidW w ⟨d, u, l, k⟩ ⟨d', u', l', k'⟩ w1.heap.size ⟨d, u, l, k⟩ (w1.alloc (.cells #[.bool d, .bool u, .int .i64 l, .int .i64 k] 46)) := by
        refine ⟨below_alloc HB1.out _, hz1, by simp, ?_, ?_, ?_, ?_, ?_, ?_⟩
        all_goals first
          | (refine ⟨?_, ?_, ?_, ?_⟩ <;> simp [go_sem, hc1, hf1, hz1, hz0, hz00, zeroIv])
      have HX2 := Lib.hid (HX1.out.below (below_alloc (Below.refl _ _) (.cells #[.bool d, .bool u, .int .i64 l, .int .i64 k] 46)))
      generalize (w1.alloc (.cells #[.bool d, .bool u, .int .i64 l, .int .i64 k] 46)) = wc at *
      generalize w1.heap.size = p at *
      clear hc1 hf1 HX1 HB1
      go_cut [53] (fun x wd => x = .bool (goesLow ⟨d, u, l, k⟩ ⟨d', u', l', k'⟩) ∧ wd = wc)
      case first =>
        have h1 := H0.ca.1
        have h2 := H0.ca.2.2.1
        have h3 := H0.cb.1
        have h4 := H0.cb.2.2.1
        simp only at h1 h2 h3 h4
        cases d <;> cases d'
        all_goals
          go_wp2
          all_goals (go_meet; simp [goesLow, *] <;> omega)
      case rest =>
        obtain ⟨rfl, rfl⟩ := hcut
        go_upto_if 53 with fail
        go_cut [] (fun wc => WidW w ⟨d, u, l, k⟩ ⟨d', u', l', k'⟩ p ⟨if goesLow ⟨d, u, l, k⟩ ⟨d', u', l', k'⟩ = true then (lowOf ⟨d', u', l', k'⟩ xs).1 else d, u, if goesLow ⟨d, u, l, k⟩ ⟨d', u', l', k'⟩ = true then (lowOf ⟨d', u', l', k'⟩ xs).2 else l, k⟩ wc)
        case first =>
          rcases hg : goesLow ⟨d, u, l, k⟩ ⟨d', u', l', k'⟩ with _ | _
          · have HG := Lib.hid hg
            go_wp2
            go_meet
            simp only [HG.out, Bool.false_eq_true, if_false]; exact H0
          · have HG := Lib.hid hg
            have f1 := H0.fp.1
            have f2 := H0.fp.2.2.1
            have h5 := H0.cp.1
            have h6 := H0.cp.2.2.1
            simp only at h5 h6
            have H1 := Lib.hid (H0.setLow true 0)
            go_wp2
            have hxl := HX2.out.1
            go_loopw [58] (fun i wr => ∃ q : Nat, q ≤ j ∧ i = .int .i64 q ∧ Hid (WidW w ⟨d, u, l, k⟩ ⟨d', u', l', k'⟩ p ⟨((xs.take q).foldl (lowStop ⟨d', u', l', k'⟩) (true, 0)).1, u, ((xs.take q).foldl (lowStop ⟨d', u', l', k'⟩) (true, 0)).2, k⟩ wr)) (fun i _ => j - (intOf i).toNat)
            case atStart => exact ⟨0, Nat.zero_le _, rfl, H1⟩
            case round =>
              obtain ⟨q, hq, rfl, HW⟩ := hrel
              have g3 := HW.out.cb.1
              have g4 := HW.out.cb.2.2.1
              have g5 := HW.out.cp.1
              have g6 := HW.out.cp.2.2.1
              have g7 := HW.out.fp.1
              have g8 := HW.out.fp.2.2.1
              by_cases hlt : q < j
              · have hstep := Lib.hid (getD_take (show q < xs.length by omega) (lowStop ⟨d', u', l', k'⟩) (true, 0))
                obtain ⟨g, o, rfl, hx⟩ := (HX.out.below HW.out.below).2 (by omega)
                have hxq := hx q hlt
                clear hx
                generalize xs.getD q 0 = sx at *
                generalize (xs.take q).foldl (lowStop ⟨d', u', l', k'⟩) (true, 0) = acc at *
                obtain ⟨x1, x2⟩ := acc
                simp only at g3 g4 g5 g6
                cases d'
                · by_cases c1 : sx ≤ l'
                  · cases x1
                    · by_cases c2 : x2 < sx
                      · have HN : Hid (lowStop ⟨false, u', l', k'⟩ (false, x2) sx = (false, sx)) := by show _ = _; simp [lowStop, c1, c2]
                        go_wp2
                        (refine ⟨⟨q + 1, by omega, by go_num, ?_⟩, by simp [intOf]; omega⟩; show WidW _ _ _ _ _ _; rw [hstep.out, HN.out]; exact HW.out.setLow false sx)
                      · have HN : Hid (lowStop ⟨false, u', l', k'⟩ (false, x2) sx = (false, x2)) := by show _ = _; simp [lowStop, c1, c2]
                        have c3 : x2 ≥ sx := by omega
                        go_wp2
                        (refine ⟨⟨q + 1, by omega, by go_num, ?_⟩, by simp [intOf]; omega⟩; show WidW _ _ _ _ _ _; rw [hstep.out, HN.out]; exact HW.out)
                    · have HN : Hid (lowStop ⟨false, u', l', k'⟩ (true, x2) sx = (false, sx)) := by show _ = _; simp [lowStop, c1]
                      go_wp2
                      (refine ⟨⟨q + 1, by omega, by go_num, ?_⟩, by simp [intOf]; omega⟩; show WidW _ _ _ _ _ _; rw [hstep.out, HN.out]; exact HW.out.setLow false sx)
                  · have HN : Hid (lowStop ⟨false, u', l', k'⟩ (x1, x2) sx = (x1, x2)) := by show _ = _; simp [lowStop, c1]
                    have c3 : decide (sx ≤ l') = false := by simpa using c1
                    cases x1
                    · go_wp2
                      (refine ⟨⟨q + 1, by omega, by go_num, ?_⟩, by simp [intOf]; omega⟩; show WidW _ _ _ _ _ _; rw [hstep.out, HN.out]; exact HW.out)
                    · go_wp2
                      (refine ⟨⟨q + 1, by omega, by go_num, ?_⟩, by simp [intOf]; omega⟩; show WidW _ _ _ _ _ _; rw [hstep.out, HN.out]; exact HW.out)
                · have HN : Hid (lowStop ⟨true, u', l', k'⟩ (x1, x2) sx = (x1, x2)) := by show _ = _; simp [lowStop]
                  cases x1
                  · go_wp2
                    (refine ⟨⟨q + 1, by omega, by go_num, ?_⟩, by simp [intOf]; omega⟩; show WidW _ _ _ _ _ _; rw [hstep.out, HN.out]; exact HW.out)
                  · go_wp2
                    (refine ⟨⟨q + 1, by omega, by go_num, ?_⟩, by simp [intOf]; omega⟩; show WidW _ _ _ _ _ _; rw [hstep.out, HN.out]; exact HW.out)
              · obtain rfl : q = j := by omega
                go_wp2
                go_meet
                simp only [HG.out, if_true]
                have := HW.out
                rwa [List.take_of_length_le (by omega)] at this
        case rest =>
          generalize hD : (if goesLow ⟨d, u, l, k⟩ ⟨d', u', l', k'⟩ = true then (lowOf ⟨d', u', l', k'⟩ xs).1 else d) = D at hcut
          generalize hL : (if goesLow ⟨d, u, l, k⟩ ⟨d', u', l', k'⟩ = true then (lowOf ⟨d', u', l', k'⟩ xs).2 else l) = L at hcut
          have HD := Lib.hid hD
          have HL := Lib.hid hL
          clear hD hL H0
          have H0 := Lib.hid hcut
          clear hcut
          go_upto_region 21 with fail
          go_cut [98] (fun x wd => x = .bool (goesHigh ⟨d, u, l, k⟩ ⟨d', u', l', k'⟩) ∧ wd = wc)
          case first =>
            have h1 := H0.out.ca.2.1
            have h2 := H0.out.ca.2.2.2
            have h3 := H0.out.cb.2.1
            have h4 := H0.out.cb.2.2.2
            simp only at h1 h2 h3 h4
            cases u <;> cases u'
            all_goals
              go_wp2
              all_goals (go_meet; simp [goesHigh, *] <;> omega)
          case rest =>
            obtain ⟨rfl, rfl⟩ := hcut
            go_upto_if 98 with fail
            go_cut [] (fun wc => Hid (WidW w ⟨d, u, l, k⟩ ⟨d', u', l', k'⟩ p ⟨D, if goesHigh ⟨d, u, l, k⟩ ⟨d', u', l', k'⟩ = true then (highOf ⟨d', u', l', k'⟩ xs).1 else u, L, if goesHigh ⟨d, u, l, k⟩ ⟨d', u', l', k'⟩ = true then (highOf ⟨d', u', l', k'⟩ xs).2 else k⟩ wc))
            case first =>
              rcases hg : goesHigh ⟨d, u, l, k⟩ ⟨d', u', l', k'⟩ with _ | _
              · have HG := Lib.hid hg
                go_wp2
                go_meet
                simp only [HG.out, Bool.false_eq_true, if_false]; exact H0
              · have HG := Lib.hid hg
                have f1 := H0.out.fp.2.1
                have f2 := H0.out.fp.2.2.2
                have h5 := H0.out.cp.2.1
                have h6 := H0.out.cp.2.2.2
                simp only at h5 h6
                have H1 := Lib.hid (H0.out.setHigh true 0)
                go_wp2
                have hxl := HX2.out.1
                go_loopw [103] (fun i wr => ∃ q : Nat, q ≤ j ∧ i = .int .i64 q ∧ Hid (WidW w ⟨d, u, l, k⟩ ⟨d', u', l', k'⟩ p ⟨D, ((xs.take q).foldl (highStop ⟨d', u', l', k'⟩) (true, 0)).1, L, ((xs.take q).foldl (highStop ⟨d', u', l', k'⟩) (true, 0)).2⟩ wr)) (fun i _ => j - (intOf i).toNat)
                case atStart => exact ⟨0, Nat.zero_le _, rfl, H1⟩
                case round =>
                  obtain ⟨q, hq, rfl, HW⟩ := hrel
                  have g3 := HW.out.cb.2.1
                  have g4 := HW.out.cb.2.2.2
                  have g5 := HW.out.cp.2.1
                  have g6 := HW.out.cp.2.2.2
                  have g7 := HW.out.fp.2.1
                  have g8 := HW.out.fp.2.2.2
                  by_cases hlt : q < j
                  · have hstep := Lib.hid (getD_take (show q < xs.length by omega) (highStop ⟨d', u', l', k'⟩) (true, 0))
                    obtain ⟨g, o, rfl, hx⟩ := (HX.out.below HW.out.below).2 (by omega)
                    have hxq := hx q hlt
                    clear hx
                    generalize xs.getD q 0 = sx at *
                    generalize (xs.take q).foldl (highStop ⟨d', u', l', k'⟩) (true, 0) = acc at *
                    obtain ⟨x1, x2⟩ := acc
                    simp only at g3 g4 g5 g6
                    cases u'
                    · by_cases c1 : sx ≥ k'
                      · cases x1
                        · by_cases c2 : sx < x2
                          · have HN : Hid (highStop ⟨d', false, l', k'⟩ (false, x2) sx = (false, sx)) := by show _ = _; simp [highStop, c1, c2]
                            go_wp2
                            (refine ⟨⟨q + 1, by omega, by go_num, ?_⟩, by simp [intOf]; omega⟩; show WidW _ _ _ _ _ _; rw [hstep.out, HN.out]; exact HW.out.setHigh false sx)
                          · have HN : Hid (highStop ⟨d', false, l', k'⟩ (false, x2) sx = (false, x2)) := by show _ = _; simp [highStop, c1, c2]
                            have c3 : x2 ≤ sx := by omega
                            go_wp2
                            (refine ⟨⟨q + 1, by omega, by go_num, ?_⟩, by simp [intOf]; omega⟩; show WidW _ _ _ _ _ _; rw [hstep.out, HN.out]; exact HW.out)
                        · have HN : Hid (highStop ⟨d', false, l', k'⟩ (true, x2) sx = (false, sx)) := by show _ = _; simp [highStop, c1]
                          go_wp2
                          (refine ⟨⟨q + 1, by omega, by go_num, ?_⟩, by simp [intOf]; omega⟩; show WidW _ _ _ _ _ _; rw [hstep.out, HN.out]; exact HW.out.setHigh false sx)
                      · have HN : Hid (highStop ⟨d', false, l', k'⟩ (x1, x2) sx = (x1, x2)) := by show _ = _; simp [highStop, c1]
                        have c3 : decide (sx ≥ k') = false := by simpa using c1
                        cases x1
                        · go_wp2
                          (refine ⟨⟨q + 1, by omega, by go_num, ?_⟩, by simp [intOf]; omega⟩; show WidW _ _ _ _ _ _; rw [hstep.out, HN.out]; exact HW.out)
                        · go_wp2
                          (refine ⟨⟨q + 1, by omega, by go_num, ?_⟩, by simp [intOf]; omega⟩; show WidW _ _ _ _ _ _; rw [hstep.out, HN.out]; exact HW.out)
                    · have HN : Hid (highStop ⟨d', true, l', k'⟩ (x1, x2) sx = (x1, x2)) := by show _ = _; simp [highStop]
                      cases x1
                      · go_wp2
                        (refine ⟨⟨q + 1, by omega, by go_num, ?_⟩, by simp [intOf]; omega⟩; show WidW _ _ _ _ _ _; rw [hstep.out, HN.out]; exact HW.out)
                      · go_wp2
                        (refine ⟨⟨q + 1, by omega, by go_num, ?_⟩, by simp [intOf]; omega⟩; show WidW _ _ _ _ _ _; rw [hstep.out, HN.out]; exact HW.out)
                  · obtain rfl : q = j := by omega
                    go_wp2
                    go_meet
                    simp only [HG.out, if_true]
                    have := HW.out
                    rwa [List.take_of_length_le (by omega)] at this
            case rest =>
              clear H0
              have HC := hcut
              clear hcut
              generalize hU : (if goesHigh ⟨d, u, l, k⟩ ⟨d', u', l', k'⟩ = true then (highOf ⟨d', u', l', k'⟩ xs).1 else u) = U at HC
              generalize hK : (if goesHigh ⟨d, u, l, k⟩ ⟨d', u', l', k'⟩ = true then (highOf ⟨d', u', l', k'⟩ xs).2 else k) = K at HC
              have HU := Lib.hid hU
              have HK := Lib.hid hK
              clear hU hK
              have e1 := HC.out.cp.1
              have e2 := HC.out.cp.2.1
              have e3 := HC.out.cp.2.2.1
              have e4 := HC.out.cp.2.2.2
              have r1 := HC.out.cr.1
              have r2 := HC.out.cr.2.1
              have r3 := HC.out.cr.2.2.1
              have r4 := HC.out.cr.2.2.2
              have f1 := HC.out.fr.1
              have f2 := HC.out.fr.2.1
              have f3 := HC.out.fr.2.2.1
              have f4 := HC.out.fr.2.2.2
              simp only at e1 e2 e3 e4
              simp only [zeroIv] at r1 r2 r3 r4
              go_wp2
              refine bodyPost_ret (v := .tuple #[ivV ⟨D, U, L, K⟩, .nilIface]) (by simp [results, Tryd.results27, go_sem, r1, r2, r3, r4]) rfl ⟨?_, ?_⟩
              · have e : ivWiden ⟨d, u, l, k⟩ ⟨d', u', l', k'⟩ xs = ⟨D, U, L, K⟩ := by rw [← HD.out, ← HU.out, ← HL.out, ← HK.out]; rfl
                rw [e]
              · have hB := HC.out.below
                exact below_set (below_set (below_set (below_set hB (by simp; omega) _) (by simp; omega) _) (by simp; omega) _) (by simp; omega) _
end Go.Proofs.Rcn
