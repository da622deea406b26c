import Derived.Test.YtcalcnfppnbooaaDoorOxZv
/- Package zone: Guard, two. -/
set_option linter.unusedVariables false
set_option linter.unusedSimpArgs false
namespace Go.Proofs.Rcg
open Go Go.RowKit Go.Proofs.Rcn Go.Proofs.YtcalcnfppnbooaaDoor.Z Go.Proofs.YtcalcnfppnbooaaDoorW.PrintWords

/-- What comes back: a zone, a yes or no, an error. -/
def ZRet [EA] (w : World) (R : Int × List ZC × Bool × Option Int) (e : Ending) (w' : World) : Prop :=
  ∃ v : Value, e = .returned (.tuple #[.agg #[.int .i64 R.1, v], .bool R.2.2.1, errW R.2.2.2]) ∧ Kd.R k120 120 w' w.heap.size (fun _ => True) v R.2.1 ∧ Below w.heap.size w w'
theorem ZRet.no [EA] {w w' : World} {er : Option Int} (hb : Below w.heap.size w w') : ZRet w (0, [], false, er) (.returned (.tuple #[.agg #[.int .i64 0, .slice none 0 0], .bool false, errW er])) w' := ⟨_, rfl, R_nilZ _ _, hb⟩

def guardR (N : Int) (L : List Cel) (i j m : Int) : Int × List ZC × Bool × Option Int :=
  match zErr N L with
  | some e => (0, [], false, some e)
  | none => if i < 0 ∨ i > N ∨ j < 0 ∨ j > N then (0, [], false, some 3) else if zfar m = true then (0, [], false, some 2)
    else ((shutZ N (leastL L (i.toNat * (N + 1).toNat + j.toNat) true m)).1, (shutZ N (leastL L (i.toNat * (N + 1).toNat + j.toNat) true m)).2.1, (shutZ N (leastL L (i.toNat * (N + 1).toNat + j.toNat) true m)).2.2, none)
theorem zErr_none {N : Int} {L : List Cel} (h : zErr N L = none) : ∃ n : Nat, N + 1 = n ∧ 1 ≤ n ∧ n ≤ 5 ∧ L.length = n * n ∧ (∀ j, j < L.length → bad (cg L j) = false) ∧ ∀ j, j < L.length → zfar (cg L j).most = false := by
  rw [zErr_eq] at h
  by_cases h1 : N < 0 ∨ N > 4
  · rw [if_pos h1] at h; cases h
  rw [if_neg h1] at h
  by_cases h2 : (L.length : Int) ≠ (N + 1) * (N + 1)
  · rw [if_pos h2] at h; cases h
  rw [if_neg h2] at h
  by_cases h3 : L.any bad = true
  · rw [if_pos h3] at h; cases h
  rw [if_neg h3] at h
  by_cases h4 : (L.any fun c => zfar c.most) = true
  · rw [if_pos h4] at h; cases h
  obtain ⟨n, hn⟩ : ∃ n : Nat, N + 1 = n := ⟨(N + 1).toNat, by omega⟩
  refine ⟨n, hn, by omega, by omega, ?_, fun j hj => ?_, fun j hj => ?_⟩
  · have h2' := Classical.not_not.1 h2
    rw [hn] at h2'
    exact_mod_cast h2'
  · exact Bool.eq_false_iff.2 fun q => h3 (anyBad_true hj q)
  · exact Bool.eq_false_iff.2 fun q => h4 ((anyFar L).2 ⟨j, hj, q⟩)

set_option maxRecDepth 100000 in
set_option maxHeartbeats 4000000 in
theorem zguard_any [EA] (A : Option Addr) (n c : Nat) (N i j m : Int) (L : List Cel) (w : World) (hz : RCel w A n L) (h2 : ErrAt 2 1 w) (h3 : ErrAt 3 0 w) :
    Calls Tryd.prog 61 #[.agg #[.int .i64 N, .slice A n c], .int .i64 i, .int .i64 j, .int .i64 m] w (ZRet w (guardR N L i j m)) := by
  have HL := Lib.hid hz.1
  have HZ := Lib.hid hz
  have HE2 := Lib.hid h2
  have HE3 := Lib.hid h3
  have hv := fun W (h : Below w.heap.size w W) => zvalid_any A n c N L W (hz.below h) (h2.below h) (h3.below h)
  obtain ⟨R, hR⟩ : ∃ R, R = guardR N L i j m := ⟨_, rfl⟩
  rw [← hR]
  have l2 := h2.lt
  have l3 := h3.lt
  clear hz h2 h3
  have H0 : Hid (Cell2 ((w.alloc (.cells #[.int .i64 N, .slice A n c] 30)).alloc (.cells #[.int .i64 0, .slice none 0 0] 30)) w.heap.size (.int .i64 N) (.slice A n c)) := (Cell2.new w _ _ _).alloc _
  have H1 : Hid (Cell2 ((w.alloc (.cells #[.int .i64 N, .slice A n c] 30)).alloc (.cells #[.int .i64 0, .slice none 0 0] 30)) (w.heap.size + 1) (.int .i64 0) (.slice none 0 0)) := by
    have := Cell2.new (w.alloc (.cells #[.int .i64 N, .slice A n c] 30)) (.int .i64 0) (.slice none 0 0) 30
    show Cell2 _ _ _ _
    simpa using this
  have HW : Hid (Below w.heap.size w ((w.alloc (.cells #[.int .i64 N, .slice A n c] 30)).alloc (.cells #[.int .i64 0, .slice none 0 0] 30))) := Go.Proofs.Rcn.below_alloc (Go.Proofs.Rcn.below_alloc (Below.refl _ _) _) _
  cases hE : zErr N L with
  | some er =>
    obtain rfl : R = (0, [], false, some er) := by rw [hR]; unfold guardR; rw [hE]
    rw [hE] at hv
    have HV := Lib.hid hv
    clear hE hR hv
    go_enter Tryd.func61, Tryd.ntmps61
    go_wp2_with fail
    refine (HV.out _ HW.out).mono ?_
    rintro e w1 ⟨rfl, hb1⟩
    have HW1 := Lib.hid (below_then HW.out hb1)
    obtain ⟨rl, r0, r1, rf0, rf1⟩ := H1.out.below hb1
    clear hb1
    simp only [errW_some]
    go_wp2
    refine bodyPost_ret (v := .tuple #[.agg #[.int .i64 0, .slice none 0 0], .bool false, errW (some er)]) (by simp [results, Tryd.results61, go_sem, rl, r0, r1, rf0, rf1, errW_some]) rfl (ZRet.no ?_)
    repeat (first | exact HW1.out | refine Go.Proofs.Rcn.below_set ?_ (by simp) _)
  | none =>
    obtain ⟨n1, hn1, h11, h15, hlen, hbad, hfar⟩ := zErr_none hE
    clear hbad hfar
    rw [hE] at hv
    have HV := Lib.hid hv
    have HN := Lib.hid hn1
    have HLen := Lib.hid hlen
    clear hv hn1 hlen
    have hN : 0 ≤ N ∧ N ≤ 4 := by have := HN.out; omega
    by_cases hin : i < 0 ∨ i > N ∨ j < 0 ∨ j > N
    · obtain rfl : R = (0, [], false, some 3) := by rw [hR]; unfold guardR; rw [hE]; simp only [if_pos hin]
      have hany : ([i, j].any fun x => decide (x < 0 ∨ x > N)) = true := by
        simp only [List.any_cons, List.any_nil, Bool.or_false, Bool.or_eq_true, decide_eq_true_eq]
        omega
      have hvar := fun W A2 (h : RInts W A2 2 [i, j]) => zvar_any A n c N 0 A2 2 2 [i, j] W h (by omega)
      rw [hany] at hvar
      have HVar := Lib.hid hvar
      clear hE hR hin hany hvar
      go_enter Tryd.func61, Tryd.ntmps61
      go_wp2_with fail
      refine (HV.out _ HW.out).mono ?_
      rintro e w1 ⟨rfl, hb1⟩
      have HW1 := Lib.hid (below_then HW.out hb1)
      have K0 := Lib.hid (H0.out.below hb1)
      have K1 := Lib.hid (H1.out.below hb1)
      obtain ⟨bl, b0, b1, bf0, bf1⟩ := K0.out
      clear hb1
      simp only [errW_none]
      go_wp2_with fail
      refine (HVar.out _ _ ⟨rfl, fun _ => ⟨_, 0, rfl, fun k hk => ?_⟩⟩).mono ?_
      · rcases Nat.lt_or_ge k 1 with h | h
        · obtain rfl : k = 0 := by omega
          simp [go_sem]
        · obtain rfl : k = 1 := by omega
          simp [go_sem]
      rintro e w2 ⟨rfl, hb2⟩
      have HW2 := Lib.hid (below_then (Go.Proofs.Rcn.below_alloc HW1.out _) hb2)
      obtain ⟨rl, r0, r1, rf0, rf1⟩ := (K1.out.alloc _).below hb2
      have e3 := (HE3.out.below HW2.out).cell
      have e3l := (HE3.out.below HW2.out).lt
      clear hb2 bl b0 b1 bf0 bf1
      go_wp2_with fail
      go_region
      all_goals (try go_wp2)
      all_goals
        refine bodyPost_ret (v := .tuple #[.agg #[.int .i64 0, .slice none 0 0], .bool false, errW (some 3)]) (by simp [results, Tryd.results61, go_sem, rl, r0, r1, rf0, rf1, errW_some]) rfl (ZRet.no ?_)
        repeat (first | exact HW2.out | refine Go.Proofs.Rcn.below_set ?_ (by simp) _ | refine Go.Proofs.Rcn.below_drew ?_)
    · have hany : ([i, j].any fun x => decide (x < 0 ∨ x > N)) = false := by
        simp only [List.any_cons, List.any_nil, Bool.or_false, Bool.or_eq_false_iff, decide_eq_false_iff_not]
        omega
      have hvar := fun W A2 (h : RInts W A2 2 [i, j]) => zvar_any A n c N 0 A2 2 2 [i, j] W h (by omega)
      rw [hany] at hvar
      have HVar := Lib.hid hvar
      clear hany hvar
      obtain ⟨f, hf⟩ : ∃ f, f = zfar m := ⟨_, rfl⟩
      have hfar := fun W => zfar_any m W
      rw [← hf] at hfar
      have HFar := Lib.hid hfar
      clear hfar
      cases f with
      | true =>
        obtain rfl : R = (0, [], false, some 2) := by rw [hR]; unfold guardR; rw [hE]; simp only [if_neg hin, if_pos hf.symm]
        clear hE hR hf hin
        go_enter Tryd.func61, Tryd.ntmps61
        go_wp2_with fail
        refine (HV.out _ HW.out).mono ?_
        rintro e w1 ⟨rfl, hb1⟩
        have HW1 := Lib.hid (below_then HW.out hb1)
        have K0 := Lib.hid (H0.out.below hb1)
        have K1 := Lib.hid (H1.out.below hb1)
        obtain ⟨bl, b0, b1, bf0, bf1⟩ := K0.out
        clear hb1
        simp only [errW_none]
        go_wp2_with fail
        refine (HVar.out _ _ ⟨rfl, fun _ => ⟨_, 0, rfl, fun k hk => ?_⟩⟩).mono ?_
        · rcases Nat.lt_or_ge k 1 with h | h
          · obtain rfl : k = 0 := by omega
            simp [go_sem]
          · obtain rfl : k = 1 := by omega
            simp [go_sem]
        rintro e w2 ⟨rfl, hb2⟩
        have HW2 := Lib.hid (below_then (Go.Proofs.Rcn.below_alloc HW1.out _) hb2)
        obtain ⟨rl, r0, r1, rf0, rf1⟩ := (K1.out.alloc _).below hb2
        have e3 := (HE2.out.below HW2.out).cell
        have e3l := (HE2.out.below HW2.out).lt
        clear hb2 bl b0 b1 bf0 bf1
        go_wp2_with fail
        refine (HFar.out _).mono ?_
        rintro e w2' ⟨rfl, rfl⟩
        go_wp2_with fail
        go_region
        all_goals (try go_wp2)
        all_goals
          refine bodyPost_ret (v := .tuple #[.agg #[.int .i64 0, .slice none 0 0], .bool false, errW (some 2)]) (by simp [results, Tryd.results61, go_sem, rl, r0, r1, rf0, rf1, errW_some]) rfl (ZRet.no ?_)
          repeat (first | exact HW2.out | refine Go.Proofs.Rcn.below_set ?_ (by simp) _ | refine Go.Proofs.Rcn.below_drew ?_)
      | false =>
        have hi1 : 0 ≤ i ∧ i ≤ N ∧ 0 ≤ j ∧ j ≤ N := by omega
        obtain ⟨p, hp⟩ : ∃ p : Nat, i = p := ⟨i.toNat, by omega⟩
        obtain ⟨q, hq⟩ : ∃ q : Nat, j = q := ⟨j.toNat, by omega⟩
        subst hp hq
        have hp1 : p < n1 := by have := HN.out; omega
        have hq1 : q < n1 := by have := HN.out; omega
        have hL2 : n = n1 * n1 := by rw [← HL.out]; exact HLen.out
        have hx : p * n1 + q < n := by rw [hL2]; exact idx_lt hp1 hq1
        have HR1 : Hid (R = ((shutZ N (leastL L (p * n1 + q) true m)).1, (shutZ N (leastL L (p * n1 + q) true m)).2.1, (shutZ N (leastL L (p * n1 + q) true m)).2.2, none)) := by
          show R = _
          rw [hR]; unfold guardR; rw [hE]
          simp only [if_neg hin, if_neg (show ¬ zfar m = true by rw [← hf]; decide)]
          rw [show ((p : Nat) : Int).toNat = p from rfl, show ((q : Nat) : Int).toNat = q from rfl, show (N + 1).toNat = n1 by have := HN.out; omega]
        have hlen1 : 1 ≤ n ∧ n ≤ 25 := by rw [hL2]; exact ⟨Nat.mul_le_mul h11 h11, Nat.mul_le_mul h15 h15⟩
        have HL2 := Lib.hid hL2
        clear hE hR hf hin hi1 hL2
        go_enter Tryd.func61, Tryd.ntmps61
        go_wp2_with fail
        refine (HV.out _ HW.out).mono ?_
        rintro e w1 ⟨rfl, hb1⟩
        have HW1 := Lib.hid (below_then HW.out hb1)
        have K0 := Lib.hid (H0.out.below hb1)
        have K1 := Lib.hid (H1.out.below hb1)
        obtain ⟨bl, b0, b1, bf0, bf1⟩ := K0.out
        clear hb1
        simp only [errW_none]
        go_wp2_with fail
        refine (HVar.out _ _ ⟨rfl, fun _ => ⟨_, 0, rfl, fun k hk => ?_⟩⟩).mono ?_
        · rcases Nat.lt_or_ge k 1 with h | h
          · obtain rfl : k = 0 := by omega
            simp [go_sem]
          · obtain rfl : k = 1 := by omega
            simp [go_sem]
        rintro e w2 ⟨rfl, hb2⟩
        have HW2 := Lib.hid (below_then (Go.Proofs.Rcn.below_alloc HW1.out _) hb2)
        have M0 := Lib.hid ((K0.out.alloc _).below hb2)
        have M1 := Lib.hid ((K1.out.alloc _).below hb2)
        clear hb2 bl b0 b1 bf0 bf1
        obtain ⟨bl, b0, b1, bf0, bf1⟩ := M0.out
        go_wp2_with fail
        refine (HFar.out _).mono ?_
        rintro e w2' ⟨rfl, rfl⟩
        go_wp2_with fail
        refine (clone_any A n c N L _ (HZ.out.below HW2.out) (by omega)).mono ?_
        rintro e w3 ⟨A3, c3, rfl, hr3, hb3⟩
        obtain ⟨g, cap, hv3, hg1, hg2⟩ := hr3.form (by rw [HL.out]; omega)
        simp only [Value.slice.injEq] at hv3
        obtain ⟨rfl, -, rfl⟩ := hv3
        have HW3 := Lib.hid (below_then HW2.out hb3)
        have P1 := Lib.hid (M1.out.below hb3)
        have HR3 := Lib.hid hr3
        have hgl : w2'.heap.size ≤ g := hg1
        have hwl := M1.out.lt
        have hwl3 := P1.out.lt
        clear hb3 hr3 bl b0 b1 bf0 bf1 hg1
        go_wp2_with fail
        refine (at_easy n1 p q HN.out (by omega) HL2.out hp1 hq1).mono ?_
        rintro e w4 ⟨rfl, o4, rfl⟩
        go_wp2_with fail
        refine (least_any g n c3 (p * n1 + q) w2'.heap.size L true m _ ((HR3.out.alloc _).alloc _) HL.out.symm hx).mono ?_
        rintro e w5 ⟨rfl, hz5, hbut5⟩
        have HW5 : Hid (Below w.heap.size w w5) := hbut5.below (Go.Proofs.Rcn.below_alloc (Go.Proofs.Rcn.below_alloc HW3.out _) _) (by simp; omega) (by omega)
        have Q1 : Hid (Cell2 w5 (w.heap.size + 1) (.int .i64 0) (.slice none 0 0)) := ((P1.out.alloc _).alloc _).but hbut5 (by omega)
        have Q2 : Hid (Cell2 w5 w3.heap.size (.int .i64 N) (.slice (some ⟨g, 0, none⟩) n c3)) := ((Cell2.new w3 _ _ _).alloc _).but hbut5 (by omega)
        have HR5 := Lib.hid hz5
        clear hbut5 hz5
        obtain ⟨bl, b0, b1, bf0, bf1⟩ := Q2.out
        go_wp2_with fail
        refine (close_any (some ⟨g, 0, none⟩) n1 n c3 N (leastL L (p * n1 + q) true m) _ HN.out h11 h15 HL2.out HR5.out.rcel.1).mono ?_
        rintro e w6 ⟨hb6, hp6⟩
        have HW6 := Lib.hid (below_then HW5.out hb6)
        have S1 := Lib.hid (Q1.out.below hb6)
        have S2 := Lib.hid (Q2.out.below hb6)
        have hw6 : w.heap.size ≤ w5.heap.size := HW5.out.size
        have hq1l := Q1.out.lt
        have hq2l := Q2.out.lt
        clear hb6 bl b0 b1 bf0 bf1
        cases hC : closeZ n1 (leastL L (p * n1 + q) true m) with
        | none =>
          rw [hC] at hp6
          obtain rfl : e = .returned (.tuple #[.agg #[.int .i64 0, .slice none 0 0], .bool false]) := hp6
          obtain rfl : R = (0, [], false, none) := by
            rw [HR1.out]
            have : shutZ N (leastL L (p * n1 + q) true m) = (0, [], false) := by unfold shutZ; rw [show (N + 1).toNat = n1 by have := HN.out; omega, hC]
            rw [this]
          clear hC
          obtain ⟨rl, r0, r1, rf0, rf1⟩ := S1.out
          obtain ⟨bl, b0, b1, bf0, bf1⟩ := S2.out
          go_wp2
          refine bodyPost_ret (v := .tuple #[.agg #[.int .i64 0, .slice none 0 0], .bool false, errW none]) (by simp [results, Tryd.results61, go_sem, rl, r0, r1, rf0, rf1, bl, b0, b1, errW_none]) rfl (ZRet.no ?_)
          repeat (first | exact HW6.out | refine Go.Proofs.Rcn.below_set ?_ (by simp <;> omega) _ | refine Go.Proofs.Rcn.below_drew ?_)
        | some C =>
          rw [hC] at hp6
          obtain ⟨A6, c6, rfl, hr6⟩ := hp6
          obtain rfl : R = (N, zces C, true, none) := by
            rw [HR1.out]
            have : shutZ N (leastL L (p * n1 + q) true m) = (N, zces C, true) := by unfold shutZ; rw [show (N + 1).toNat = n1 by have := HN.out; omega, hC]
            rw [this]
          have HR6 := Lib.hid hr6
          clear hC hr6
          obtain ⟨rl, r0, r1, rf0, rf1⟩ := S1.out
          obtain ⟨bl, b0, b1, bf0, bf1⟩ := S2.out
          go_wp2
          refine bodyPost_ret (v := .tuple #[.agg #[.int .i64 N, .slice A6 n c6], .bool true, errW none]) (by simp [results, Tryd.results61, go_sem, rl, r0, r1, rf0, rf1, bl, b0, b1, errW_none]) rfl ⟨.slice A6 n c6, rfl, ?_, ?_⟩
          · have k1 := ownsRow_setCell_below HR6.out (a := ⟨w3.heap.size, 0, none⟩) (by simp <;> omega) (.int .i64 N)
            have k2 := ownsRow_setCell_below k1 (a := ⟨w3.heap.size, 1, none⟩) (by simp <;> omega) (.slice A6 n c6)
            have k3 := ownsRow_setCell_below k2 (a := ⟨w.heap.size + 1, 0, none⟩) (by simp <;> omega) (.int .i64 N)
            have k4 := ownsRow_setCell_below k3 (a := ⟨w.heap.size + 1, 1, none⟩) (by simp <;> omega) (.slice A6 n c6)
            exact R_of_zrow (ZRow.low k4 (by omega))
          · repeat (first | exact HW6.out | refine Go.Proofs.Rcn.below_set ?_ (by simp <;> omega) _ | refine Go.Proofs.Rcn.below_drew ?_)
end Go.Proofs.Rcg

set_option linter.unusedVariables false
set_option linter.unusedSimpArgs false
namespace Go.Proofs.Rcg
open Go Go.RowKit Go.Proofs.Rcn Go.Proofs.YtcalcnfppnbooaaDoor.Z Go.Proofs.YtcalcnfppnbooaaDoorW.PrintWords

end Go.Proofs.Rcg
