import Derived.Test.YtcalcnfppnbooaaDoorOxQk
import Derived.Test.YtcalcnfppnbooaaDoorOxQu
/- Package octagon: Guard. -/
set_option linter.unusedVariables false
set_option linter.unusedSimpArgs false
namespace Go.Proofs.Rco
open Go Go.RowKit Go.Proofs.Rcn Go.Proofs.Rcg Go.Proofs.YtcalcnfppnbooaaDoor.Z Go.Proofs.YtcalcnfppnbooaaDoorW.PrintWords

def guardR (N : Int) (L : List Cel) (a x b y m : Int) : Int × List OC × Bool × Option Int :=
  match oErr N L with
  | some e => (0, [], false, some e)
  | none => if (x < 0 ∨ x ≥ N ∨ y < 0 ∨ y ≥ N) ∨ (a < -1 ∨ a > 1 ∨ b < -1 ∨ b > 1) ∨ x = y then (0, [], false, some 3) else if zfar m = true then (0, [], false, some 2)
    else if a = 0 ∧ b = 0 then (if m < 0 then (0, [], false, none) else ((shutO N L).1, (shutO N L).2.1, (shutO N L).2.2, none))
    else ((shutO N (boundL (2 * N).toNat a x.toNat b y.toNat m L)).1, (shutO N (boundL (2 * N).toNat a x.toNat b y.toNat m L)).2.1, (shutO N (boundL (2 * N).toNat a x.toNat b y.toNat m L)).2.2, none)
set_option maxRecDepth 100000 in
set_option maxHeartbeats 4000000 in
theorem zguard_any [EA] (A : Option Addr) (n c : Nat) (N a x b y m : Int) (L : List Cel) (w : World) (hz : RCel w A n L) (h2 : ErrAt 2 1 w) (h3 : ErrAt 3 0 w) (h7 : ErrAt 7 3 w) :
    Calls Tryd.prog 57 #[.agg #[.int .i64 N, .slice A n c], .int .i64 a, .int .i64 x, .int .i64 b, .int .i64 y, .int .i64 m] w (ZRet w (guardR N L a x b y m)) := by
  have HL := Lib.hid hz.1
  have HZ := Lib.hid hz
  have HE2 := Lib.hid h2
  have HE3 := Lib.hid h3
  have hv := fun W (h : Below w.heap.size w W) => zvalid_any A n c N L W (hz.below h) (h2.below h) (h3.below h) (h7.below h)
  obtain ⟨R, hR⟩ : ∃ R, R = guardR N L a x b y m := ⟨_, rfl⟩
  rw [← hR]
  have l2 := h2.lt
  have l3 := h3.lt
  clear hz h2 h3 h7
  have H0 : Hid (Cell2 ((w.alloc (.cells #[.int .i64 N, .slice A n c] 74)).alloc (.cells #[.int .i64 0, .slice none 0 0] 74)) w.heap.size (.int .i64 N) (.slice A n c)) := (Cell2.new w _ _ _).alloc _
  have H1 : Hid (Cell2 ((w.alloc (.cells #[.int .i64 N, .slice A n c] 74)).alloc (.cells #[.int .i64 0, .slice none 0 0] 74)) (w.heap.size + 1) (.int .i64 0) (.slice none 0 0)) := by
    have := Cell2.new (w.alloc (.cells #[.int .i64 N, .slice A n c] 74)) (.int .i64 0) (.slice none 0 0) 74
    show Cell2 _ _ _ _
    simpa using this
  have HW : Hid (Below w.heap.size w ((w.alloc (.cells #[.int .i64 N, .slice A n c] 74)).alloc (.cells #[.int .i64 0, .slice none 0 0] 74))) := Go.Proofs.Rcn.below_alloc (Go.Proofs.Rcn.below_alloc (Below.refl _ _) _) _
  cases hE : oErr N L with
  | some er =>
    obtain rfl : R = (0, [], false, some er) := by rw [hR]; unfold guardR; rw [hE]
    rw [hE] at hv
    have HV := Lib.hid hv
    clear hE hR hv
    go_enter Tryd.func57, Tryd.ntmps57
    go_wp2_with fail
    refine (HV.out _ HW.out).mono ?_
    rintro e w1 ⟨rfl, hb1⟩
    have HW1 := Lib.hid (below_then HW.out hb1)
    obtain ⟨rl, r0, r1, rf0, rf1⟩ := H1.out.below hb1
    clear hb1
    simp only [errW_some]
    go_wp2
    refine bodyPost_ret (v := .tuple #[.agg #[.int .i64 0, .slice none 0 0], .bool false, errW (some er)]) (by simp [results, Tryd.results57, go_sem, rl, r0, r1, rf0, rf1, errW_some]) rfl (ZRet.no ?_)
    repeat (first | exact HW1.out | refine Go.Proofs.Rcn.below_set ?_ (by simp) _)
  | none =>
    obtain ⟨n1, hn1, h15, hlen, hbad, hfar, hcoh⟩ := oErr_none hE
    clear hbad hfar hcoh
    rw [hE] at hv
    have HV := Lib.hid hv
    have HN := Lib.hid hn1
    have HLen := Lib.hid hlen
    have en : (2 * N).toNat = n1 := by omega
    have HEn := Lib.hid en
    clear hv hn1 hlen
    have hR2 : R = if (x < 0 ∨ x ≥ N ∨ y < 0 ∨ y ≥ N) ∨ (a < -1 ∨ a > 1 ∨ b < -1 ∨ b > 1) ∨ x = y then (0, [], false, some 3) else if zfar m = true then (0, [], false, some 2)
        else if a = 0 ∧ b = 0 then (if m < 0 then (0, [], false, none) else ((shutO N L).1, (shutO N L).2.1, (shutO N L).2.2, none))
        else ((shutO N (boundL n1 a x.toNat b y.toNat m L)).1, (shutO N (boundL n1 a x.toNat b y.toNat m L)).2.1, (shutO N (boundL n1 a x.toNat b y.toNat m L)).2.2, none) := by
      rw [hR]; unfold guardR; rw [hE]; simp only [en]
    clear hE hR en
    have hvar := fun W A2 (h : RInts W A2 2 [x, y]) => ovar_any A n c N A2 2 2 [x, y] W h (by omega)
    by_cases hin : x < 0 ∨ x ≥ N ∨ y < 0 ∨ y ≥ N
    · obtain rfl : R = (0, [], false, some 3) := by rw [hR2, if_pos (.inl hin)]
      have hany : ([x, y].any fun x => decide (x < 0 ∨ x ≥ N)) = true := by
        simp only [List.any_cons, List.any_nil, Bool.or_false, Bool.or_eq_true, decide_eq_true_eq]
        omega
      rw [hany] at hvar
      have HVar := Lib.hid hvar
      clear hR2 hin hany hvar
      as_aux_lemma =>
       go_enter Tryd.func57, Tryd.ntmps57
       go_wp2_with fail
       refine (HV.out _ HW.out).mono ?_
       rintro e w1 ⟨rfl, hb1⟩
       have HW1 := Lib.hid (below_then HW.out hb1)
       have K0 := Lib.hid (H0.out.below hb1)
       have K1 := Lib.hid (H1.out.below hb1)
       obtain ⟨bl, b0, b1, bf0, bf1⟩ := K0.out
       clear hb1
       simp only [errW_none]
       go_wp2_with fail
       refine (HVar.out _ _ ⟨rfl, fun _ => ⟨_, 0, rfl, fun k hk => ?_⟩⟩).mono ?_
       · rcases Nat.lt_or_ge k 1 with h | h
         · obtain rfl : k = 0 := by omega
           simp [go_sem]
         · obtain rfl : k = 1 := by omega
           simp [go_sem]
       rintro e w2 ⟨rfl, hb2⟩
       have HW2 := Lib.hid (below_then (Go.Proofs.Rcn.below_alloc HW1.out _) hb2)
       have M0 := Lib.hid ((K0.out.alloc _).below hb2)
       have M1 := Lib.hid ((K1.out.alloc _).below hb2)
       clear hb2 bl b0 b1 bf0 bf1
       obtain ⟨rl, r0, r1, rf0, rf1⟩ := M1.out
       have e3 := (HE3.out.below HW2.out).cell
       have e3l := (HE3.out.below HW2.out).lt
       go_wp2_with fail
       go_region
       all_goals (try go_wp2)
       all_goals
         refine bodyPost_ret (v := .tuple #[.agg #[.int .i64 0, .slice none 0 0], .bool false, errW (some 3)]) (by simp [results, Tryd.results57, go_sem, rl, r0, r1, rf0, rf1, errW_some]) rfl (ZRet.no ?_)
         repeat (first | exact HW2.out | refine Go.Proofs.Rcn.below_set ?_ (by simp) _ | refine Go.Proofs.Rcn.below_drew ?_)
    · have hany : ([x, y].any fun x => decide (x < 0 ∨ x ≥ N)) = false := by
        simp only [List.any_cons, List.any_nil, Bool.or_false, Bool.or_eq_false_iff, decide_eq_false_iff_not]
        omega
      rw [hany] at hvar
      have HVar := Lib.hid hvar
      clear hany hvar
      have hsig := fun W A2 (h : RInts W A2 2 [a, b]) => osigns_any A2 2 2 [a, b] W h (by omega)
      by_cases hsg : a < -1 ∨ a > 1 ∨ b < -1 ∨ b > 1
      · obtain rfl : R = (0, [], false, some 3) := by rw [hR2, if_pos (.inr (.inl hsg))]
        have hany : ([a, b].any fun x => decide (x < -1 ∨ x > 1)) = true := by
          simp only [List.any_cons, List.any_nil, Bool.or_false, Bool.or_eq_true, decide_eq_true_eq]
          omega
        rw [hany] at hsig
        have HSig := Lib.hid hsig
        clear hR2 hin hany hsig hsg
        as_aux_lemma =>
         go_enter Tryd.func57, Tryd.ntmps57
         go_wp2_with fail
         refine (HV.out _ HW.out).mono ?_
         rintro e w1 ⟨rfl, hb1⟩
         have HW1 := Lib.hid (below_then HW.out hb1)
         have K0 := Lib.hid (H0.out.below hb1)
         have K1 := Lib.hid (H1.out.below hb1)
         obtain ⟨bl, b0, b1, bf0, bf1⟩ := K0.out
         clear hb1
         simp only [errW_none]
         go_wp2_with fail
         refine (HVar.out _ _ ⟨rfl, fun _ => ⟨_, 0, rfl, fun k hk => ?_⟩⟩).mono ?_
         · rcases Nat.lt_or_ge k 1 with h | h
           · obtain rfl : k = 0 := by omega
             simp [go_sem]
           · obtain rfl : k = 1 := by omega
             simp [go_sem]
         rintro e w2 ⟨rfl, hb2⟩
         have HW2 := Lib.hid (below_then (Go.Proofs.Rcn.below_alloc HW1.out _) hb2)
         have M0 := Lib.hid ((K0.out.alloc _).below hb2)
         have M1 := Lib.hid ((K1.out.alloc _).below hb2)
         clear hb2 bl b0 b1 bf0 bf1
         go_wp2_with fail
         refine (HSig.out _ _ ⟨rfl, fun _ => ⟨_, 0, rfl, fun k hk => ?_⟩⟩).mono ?_
         · rcases Nat.lt_or_ge k 1 with h | h
           · obtain rfl : k = 0 := by omega
             simp [go_sem]
           · obtain rfl : k = 1 := by omega
             simp [go_sem]
         rintro e w2s ⟨rfl, hb2s⟩
         have HW2s := Lib.hid (below_then (Go.Proofs.Rcn.below_alloc HW2.out _) hb2s)
         have M0s := Lib.hid ((M0.out.alloc _).below hb2s)
         have M1s := Lib.hid ((M1.out.alloc _).below hb2s)
         clear hb2s
         obtain ⟨rl, r0, r1, rf0, rf1⟩ := M1s.out
         have e3 := (HE3.out.below HW2s.out).cell
         have e3l := (HE3.out.below HW2s.out).lt
         go_wp2_with fail
         go_region
         all_goals (try go_wp2)
         all_goals
           refine bodyPost_ret (v := .tuple #[.agg #[.int .i64 0, .slice none 0 0], .bool false, errW (some 3)]) (by simp [results, Tryd.results57, go_sem, rl, r0, r1, rf0, rf1, errW_some]) rfl (ZRet.no ?_)
           repeat (first | exact HW2s.out | refine Go.Proofs.Rcn.below_set ?_ (by simp) _ | refine Go.Proofs.Rcn.below_drew ?_)
      · have hany : ([a, b].any fun x => decide (x < -1 ∨ x > 1)) = false := by
          simp only [List.any_cons, List.any_nil, Bool.or_false, Bool.or_eq_false_iff, decide_eq_false_iff_not]
          omega
        rw [hany] at hsig
        have HSig := Lib.hid hsig
        clear hany hsig
        by_cases hxy : x = y
        · obtain rfl : R = (0, [], false, some 3) := by rw [hR2, if_pos (.inr (.inr hxy))]
          have hd : decide (x = y) = true := decide_eq_true hxy
          have hd2 : (x == y) = true := by simpa using hxy
          clear hR2 hin hsg
          subst hxy
          clear hd hd2
          as_aux_lemma =>
           go_enter Tryd.func57, Tryd.ntmps57
           go_wp2_with fail
           refine (HV.out _ HW.out).mono ?_
           rintro e w1 ⟨rfl, hb1⟩
           have HW1 := Lib.hid (below_then HW.out hb1)
           have K0 := Lib.hid (H0.out.below hb1)
           have K1 := Lib.hid (H1.out.below hb1)
           obtain ⟨bl, b0, b1, bf0, bf1⟩ := K0.out
           clear hb1
           simp only [errW_none]
           go_wp2_with fail
           refine (HVar.out _ _ ⟨rfl, fun _ => ⟨_, 0, rfl, fun k hk => ?_⟩⟩).mono ?_
           · rcases Nat.lt_or_ge k 1 with h | h
             · obtain rfl : k = 0 := by omega
               simp [go_sem]
             · obtain rfl : k = 1 := by omega
               simp [go_sem]
           rintro e w2 ⟨rfl, hb2⟩
           have HW2 := Lib.hid (below_then (Go.Proofs.Rcn.below_alloc HW1.out _) hb2)
           have M0 := Lib.hid ((K0.out.alloc _).below hb2)
           have M1 := Lib.hid ((K1.out.alloc _).below hb2)
           clear hb2 bl b0 b1 bf0 bf1
           go_wp2_with fail
           refine (HSig.out _ _ ⟨rfl, fun _ => ⟨_, 0, rfl, fun k hk => ?_⟩⟩).mono ?_
           · rcases Nat.lt_or_ge k 1 with h | h
             · obtain rfl : k = 0 := by omega
               simp [go_sem]
             · obtain rfl : k = 1 := by omega
               simp [go_sem]
           rintro e w2s ⟨rfl, hb2s⟩
           have HW2s := Lib.hid (below_then (Go.Proofs.Rcn.below_alloc HW2.out _) hb2s)
           have M0s := Lib.hid ((M0.out.alloc _).below hb2s)
           have M1s := Lib.hid ((M1.out.alloc _).below hb2s)
           clear hb2s
           obtain ⟨rl, r0, r1, rf0, rf1⟩ := M1s.out
           have e3 := (HE3.out.below HW2s.out).cell
           have e3l := (HE3.out.below HW2s.out).lt
           go_wp2_with fail
           go_region
           all_goals (try go_wp2)
           all_goals
             refine bodyPost_ret (v := .tuple #[.agg #[.int .i64 0, .slice none 0 0], .bool false, errW (some 3)]) (by simp [results, Tryd.results57, go_sem, rl, r0, r1, rf0, rf1, errW_some]) rfl (ZRet.no ?_)
             repeat (first | exact HW2s.out | refine Go.Proofs.Rcn.below_set ?_ (by simp) _ | refine Go.Proofs.Rcn.below_drew ?_)
        · have hd2 : (x == y) = false := by simpa using hxy
          obtain ⟨f, hf⟩ : ∃ f, f = zfar m := ⟨_, rfl⟩
          have hfar := fun W => zfar_any m W
          rw [← hf] at hfar
          have HFar := Lib.hid hfar
          clear hfar
          rw [if_neg (fun q => q.elim hin fun q => q.elim hsg hxy), ← hf] at hR2
          cases f with
          | true =>
            obtain rfl : R = (0, [], false, some 2) := by rw [hR2, if_pos rfl]
            clear hR2 hf hin hsg hxy
            as_aux_lemma =>
             go_enter Tryd.func57, Tryd.ntmps57
             go_wp2_with fail
             refine (HV.out _ HW.out).mono ?_
             rintro e w1 ⟨rfl, hb1⟩
             have HW1 := Lib.hid (below_then HW.out hb1)
             have K0 := Lib.hid (H0.out.below hb1)
             have K1 := Lib.hid (H1.out.below hb1)
             obtain ⟨bl, b0, b1, bf0, bf1⟩ := K0.out
             clear hb1
             simp only [errW_none]
             go_wp2_with fail
             refine (HVar.out _ _ ⟨rfl, fun _ => ⟨_, 0, rfl, fun k hk => ?_⟩⟩).mono ?_
             · rcases Nat.lt_or_ge k 1 with h | h
               · obtain rfl : k = 0 := by omega
                 simp [go_sem]
               · obtain rfl : k = 1 := by omega
                 simp [go_sem]
             rintro e w2 ⟨rfl, hb2⟩
             have HW2 := Lib.hid (below_then (Go.Proofs.Rcn.below_alloc HW1.out _) hb2)
             have M0 := Lib.hid ((K0.out.alloc _).below hb2)
             have M1 := Lib.hid ((K1.out.alloc _).below hb2)
             clear hb2 bl b0 b1 bf0 bf1
             go_wp2_with fail
             refine (HSig.out _ _ ⟨rfl, fun _ => ⟨_, 0, rfl, fun k hk => ?_⟩⟩).mono ?_
             · rcases Nat.lt_or_ge k 1 with h | h
               · obtain rfl : k = 0 := by omega
                 simp [go_sem]
               · obtain rfl : k = 1 := by omega
                 simp [go_sem]
             rintro e w2s ⟨rfl, hb2s⟩
             have HW2s := Lib.hid (below_then (Go.Proofs.Rcn.below_alloc HW2.out _) hb2s)
             have M0s := Lib.hid ((M0.out.alloc _).below hb2s)
             have M1s := Lib.hid ((M1.out.alloc _).below hb2s)
             clear hb2s
             go_wp2_with fail
             refine (HFar.out _).mono ?_
             rintro e w2' ⟨rfl, rfl⟩
             obtain ⟨rl, r0, r1, rf0, rf1⟩ := M1s.out
             have e3 := (HE2.out.below HW2s.out).cell
             have e3l := (HE2.out.below HW2s.out).lt
             go_wp2_with fail
             go_region
             all_goals (try go_wp2)
             all_goals
               refine bodyPost_ret (v := .tuple #[.agg #[.int .i64 0, .slice none 0 0], .bool false, errW (some 2)]) (by simp [results, Tryd.results57, go_sem, rl, r0, r1, rf0, rf1, errW_some]) rfl (ZRet.no ?_)
               repeat (first | exact HW2s.out | refine Go.Proofs.Rcn.below_set ?_ (by simp) _ | refine Go.Proofs.Rcn.below_drew ?_)
          | false =>
            rw [if_neg (by decide)] at hR2
            obtain ⟨p, hp⟩ : ∃ p : Nat, x = p := ⟨x.toNat, by omega⟩
            obtain ⟨q, hq⟩ : ∃ q : Nat, y = q := ⟨y.toNat, by omega⟩
            subst hp hq
            have hp1 : 2 * p + 1 < n1 := by have := HN.out; omega
            have hq1 : 2 * q + 1 < n1 := by have := HN.out; omega
            have ha : -1 ≤ a ∧ a ≤ 1 := by omega
            have hb : -1 ≤ b ∧ b ≤ 1 := by omega
            have hm : -1099511627776 ≤ m ∧ m ≤ 1099511627776 := by
              have h := hf.symm
              unfold zfar at h
              have := of_decide_eq_false h
              omega
            have hL2 : n = n1 * n1 := by rw [← HL.out]; exact HLen.out
            have hlen1 : 1 ≤ n ∧ n ≤ 64 := by rw [hL2]; exact ⟨Nat.mul_le_mul (show 1 ≤ n1 by omega) (show 1 ≤ n1 by omega), Nat.mul_le_mul h15 h15⟩
            have HL2 := Lib.hid hL2
            have Ha := Lib.hid ha
            have Hb := Lib.hid hb
            have Hm := Lib.hid hm
            clear hf hin hsg hL2 hxy ha hb hm
            by_cases hab : a = 0 ∧ b = 0
            · rw [if_pos hab] at hR2
              obtain ⟨rfl, rfl⟩ := hab
              by_cases hm0 : m < 0
              · obtain rfl : R = (0, [], false, none) := by rw [hR2, if_pos hm0]
                have HZero := Lib.hid (fun W A' c' => bound_zero N A' n c' (p : Int) (q : Int) m W)
                rw [decide_eq_false (by omega)] at HZero
                clear hR2 hm0
                as_aux_lemma =>
                 go_enter Tryd.func57, Tryd.ntmps57
                 go_wp2_with fail
                 refine (HV.out _ HW.out).mono ?_
                 rintro e w1 ⟨rfl, hb1⟩
                 have HW1 := Lib.hid (below_then HW.out hb1)
                 have K0 := Lib.hid (H0.out.below hb1)
                 have K1 := Lib.hid (H1.out.below hb1)
                 obtain ⟨bl, b0, b1, bf0, bf1⟩ := K0.out
                 clear hb1
                 simp only [errW_none]
                 go_wp2_with fail
                 refine (HVar.out _ _ ⟨rfl, fun _ => ⟨_, 0, rfl, fun k hk => ?_⟩⟩).mono ?_
                 · rcases Nat.lt_or_ge k 1 with h | h
                   · obtain rfl : k = 0 := by omega
                     simp [go_sem]
                   · obtain rfl : k = 1 := by omega
                     simp [go_sem]
                 rintro e w2 ⟨rfl, hb2⟩
                 have HW2 := Lib.hid (below_then (Go.Proofs.Rcn.below_alloc HW1.out _) hb2)
                 have M0 := Lib.hid ((K0.out.alloc _).below hb2)
                 have M1 := Lib.hid ((K1.out.alloc _).below hb2)
                 clear hb2 bl b0 b1 bf0 bf1
                 go_wp2_with fail
                 refine (HSig.out _ _ ⟨rfl, fun _ => ⟨_, 0, rfl, fun k hk => ?_⟩⟩).mono ?_
                 · rcases Nat.lt_or_ge k 1 with h | h
                   · obtain rfl : k = 0 := by omega
                     simp [go_sem]
                   · obtain rfl : k = 1 := by omega
                     simp [go_sem]
                 rintro e w2s ⟨rfl, hb2s⟩
                 have HW2s := Lib.hid (below_then (Go.Proofs.Rcn.below_alloc HW2.out _) hb2s)
                 have M0s := Lib.hid ((M0.out.alloc _).below hb2s)
                 have M1s := Lib.hid ((M1.out.alloc _).below hb2s)
                 clear hb2s
                 obtain ⟨bl, b0, b1, bf0, bf1⟩ := M0s.out
                 go_wp2_with fail
                 refine (HFar.out _).mono ?_
                 rintro e w2' ⟨rfl, rfl⟩
                 go_wp2_with fail
                 refine (clone_any A n c N L _ (HZ.out.below HW2s.out) (by omega)).mono ?_
                 rintro e w3 ⟨A3, c3, rfl, hr3, hb3⟩
                 obtain ⟨g, cap, hv3, hg1, hg2⟩ := hr3.form (by rw [HL.out]; omega)
                 simp only [Value.slice.injEq] at hv3
                 obtain ⟨rfl, -, rfl⟩ := hv3
                 have HW3 := Lib.hid (below_then HW2s.out hb3)
                 have P1 := Lib.hid (M1s.out.below hb3)
                 have HR3 := Lib.hid hr3
                 have hgl : w2'.heap.size ≤ g := hg1
                 have hwl := M1s.out.lt
                 have hwl3 := P1.out.lt
                 clear hb3 hr3 bl b0 b1 bf0 bf1 hg1
                 go_wp2_with fail
                 refine (HZero.out _ _ _).mono ?_
                 rintro e w5 ⟨rfl, hb5⟩
                 have HW5 : Hid (Below w.heap.size w w5) := below_then (Go.Proofs.Rcn.below_alloc HW3.out _) hb5
                 have Q1 : Hid (Cell2 w5 (w.heap.size + 1) (.int .i64 0) (.slice none 0 0)) := (P1.out.alloc _).below hb5
                 have Q2 : Hid (Cell2 w5 w3.heap.size (.int .i64 N) (.slice (some ⟨g, 0, none⟩) n c3)) := (Cell2.new w3 _ _ _).below hb5
                 have RX : Hid (RCel w5 (some ⟨g, 0, none⟩) n L) := ((HR3.out.alloc _).rcel.1).below hb5
                 clear hb5
                 obtain ⟨rl, r0, r1, rf0, rf1⟩ := Q1.out
                 have hw6 : w.heap.size ≤ w5.heap.size := HW5.out.size
                 go_wp2
                 refine bodyPost_ret (v := .tuple #[.agg #[.int .i64 0, .slice none 0 0], .bool false, errW none]) (by simp [results, Tryd.results57, go_sem, rl, r0, r1, rf0, rf1, errW_none]) rfl (ZRet.no ?_)
                 repeat (first | exact HW5.out | refine Go.Proofs.Rcn.below_set ?_ (by simp <;> omega) _ | refine Go.Proofs.Rcn.below_drew ?_)
              · have HR : Hid (R = ((shutO N L).1, (shutO N L).2.1, (shutO N L).2.2, none)) := by show _ = _; rw [hR2, if_neg hm0]
                have HZero := Lib.hid (fun W A' c' => bound_zero N A' n c' (p : Int) (q : Int) m W)
                rw [decide_eq_true (by omega)] at HZero
                clear hR2 hm0
                as_aux_lemma =>
                 go_enter Tryd.func57, Tryd.ntmps57
                 go_wp2_with fail
                 refine (HV.out _ HW.out).mono ?_
                 rintro e w1 ⟨rfl, hb1⟩
                 have HW1 := Lib.hid (below_then HW.out hb1)
                 have K0 := Lib.hid (H0.out.below hb1)
                 have K1 := Lib.hid (H1.out.below hb1)
                 obtain ⟨bl, b0, b1, bf0, bf1⟩ := K0.out
                 clear hb1
                 simp only [errW_none]
                 go_wp2_with fail
                 refine (HVar.out _ _ ⟨rfl, fun _ => ⟨_, 0, rfl, fun k hk => ?_⟩⟩).mono ?_
                 · rcases Nat.lt_or_ge k 1 with h | h
                   · obtain rfl : k = 0 := by omega
                     simp [go_sem]
                   · obtain rfl : k = 1 := by omega
                     simp [go_sem]
                 rintro e w2 ⟨rfl, hb2⟩
                 have HW2 := Lib.hid (below_then (Go.Proofs.Rcn.below_alloc HW1.out _) hb2)
                 have M0 := Lib.hid ((K0.out.alloc _).below hb2)
                 have M1 := Lib.hid ((K1.out.alloc _).below hb2)
                 clear hb2 bl b0 b1 bf0 bf1
                 go_wp2_with fail
                 refine (HSig.out _ _ ⟨rfl, fun _ => ⟨_, 0, rfl, fun k hk => ?_⟩⟩).mono ?_
                 · rcases Nat.lt_or_ge k 1 with h | h
                   · obtain rfl : k = 0 := by omega
                     simp [go_sem]
                   · obtain rfl : k = 1 := by omega
                     simp [go_sem]
                 rintro e w2s ⟨rfl, hb2s⟩
                 have HW2s := Lib.hid (below_then (Go.Proofs.Rcn.below_alloc HW2.out _) hb2s)
                 have M0s := Lib.hid ((M0.out.alloc _).below hb2s)
                 have M1s := Lib.hid ((M1.out.alloc _).below hb2s)
                 clear hb2s
                 obtain ⟨bl, b0, b1, bf0, bf1⟩ := M0s.out
                 go_wp2_with fail
                 refine (HFar.out _).mono ?_
                 rintro e w2' ⟨rfl, rfl⟩
                 go_wp2_with fail
                 refine (clone_any A n c N L _ (HZ.out.below HW2s.out) (by omega)).mono ?_
                 rintro e w3 ⟨A3, c3, rfl, hr3, hb3⟩
                 obtain ⟨g, cap, hv3, hg1, hg2⟩ := hr3.form (by rw [HL.out]; omega)
                 simp only [Value.slice.injEq] at hv3
                 obtain ⟨rfl, -, rfl⟩ := hv3
                 have HW3 := Lib.hid (below_then HW2s.out hb3)
                 have P1 := Lib.hid (M1s.out.below hb3)
                 have HR3 := Lib.hid hr3
                 have hgl : w2'.heap.size ≤ g := hg1
                 have hwl := M1s.out.lt
                 have hwl3 := P1.out.lt
                 clear hb3 hr3 bl b0 b1 bf0 bf1 hg1
                 go_wp2_with fail
                 refine (HZero.out _ _ _).mono ?_
                 rintro e w5 ⟨rfl, hb5⟩
                 have HW5 : Hid (Below w.heap.size w w5) := below_then (Go.Proofs.Rcn.below_alloc HW3.out _) hb5
                 have Q1 : Hid (Cell2 w5 (w.heap.size + 1) (.int .i64 0) (.slice none 0 0)) := (P1.out.alloc _).below hb5
                 have Q2 : Hid (Cell2 w5 w3.heap.size (.int .i64 N) (.slice (some ⟨g, 0, none⟩) n c3)) := (Cell2.new w3 _ _ _).below hb5
                 have RX : Hid (RCel w5 (some ⟨g, 0, none⟩) n L) := ((HR3.out.alloc _).rcel.1).below hb5
                 clear hb5
                 obtain ⟨bl, b0, b1, bf0, bf1⟩ := Q2.out
                 go_wp2_with fail
                 refine (zclose_any (some ⟨g, 0, none⟩) n1 n c3 N L _ HN.out h15 HL2.out RX.out rfl).mono ?_
                 rintro e w6 ⟨z4, A4, n4, c4, ok4, rfl, hp6, hb6⟩
                 have HW6 := Lib.hid (below_then HW5.out hb6)
                 have S1 := Lib.hid (Q1.out.below hb6)
                 have S2 := Lib.hid (Q2.out.below hb6)
                 have hw6 : w.heap.size ≤ w5.heap.size := HW5.out.size
                 have hq1l := Q1.out.lt
                 have hq2l := Q2.out.lt
                 clear hb6 bl b0 b1 bf0 bf1
                 obtain ⟨rl, r0, r1, rf0, rf1⟩ := S1.out
                 obtain ⟨bl, b0, b1, bf0, bf1⟩ := S2.out
                 have HR1 := Lib.hid HR.out
                 unfold shutO at HR1
                 rw [HEn.out] at HR1
                 clear HR
                 generalize closeO n1 L = C at hp6 HR1
                 cases C with
                 | none =>
                   obtain ⟨rfl, rfl, rfl, rfl, rfl⟩ := hp6
                   obtain rfl : R = (0, [], false, none) := HR1.out
                   go_wp2
                   refine bodyPost_ret (v := .tuple #[.agg #[.int .i64 0, .slice none 0 0], .bool false, errW none]) (by simp [results, Tryd.results57, go_sem, rl, r0, r1, rf0, rf1, bl, b0, b1, errW_none]) rfl (ZRet.no ?_)
                   repeat (first | exact HW6.out | refine Go.Proofs.Rcn.below_set ?_ (by simp <;> omega) _ | refine Go.Proofs.Rcn.below_drew ?_)
                 | some C =>
                   obtain ⟨rfl, rfl, rfl, hr6⟩ := hp6
                   obtain rfl : R = (z4, oces C, true, none) := HR1.out
                   have HR6 := Lib.hid hr6
                   clear hr6
                   go_wp2
                   refine bodyPost_ret (v := .tuple #[.agg #[.int .i64 z4, .slice A4 n4 c4], .bool true, errW none]) (by simp [results, Tryd.results57, go_sem, rl, r0, r1, rf0, rf1, bl, b0, b1, errW_none]) rfl ⟨.slice A4 n4 c4, rfl, ?_, ?_⟩
                   · have k1 := ownsRow_setCell_below HR6.out (a := ⟨w3.heap.size, 0, none⟩) (by simp <;> omega) (.int .i64 z4)
                     have k2 := ownsRow_setCell_below k1 (a := ⟨w3.heap.size, 1, none⟩) (by simp <;> omega) (.slice A4 n4 c4)
                     have k3 := ownsRow_setCell_below k2 (a := ⟨w.heap.size + 1, 0, none⟩) (by simp <;> omega) (.int .i64 z4)
                     have k4 := ownsRow_setCell_below k3 (a := ⟨w.heap.size + 1, 1, none⟩) (by simp <;> omega) (.slice A4 n4 c4)
                     exact R_of_zrow (ZRow.low k4 (by omega))
                   · repeat (first | exact HW6.out | refine Go.Proofs.Rcn.below_set ?_ (by simp <;> omega) _ | refine Go.Proofs.Rcn.below_drew ?_)
            · have HR : Hid (R = ((shutO N (boundL n1 a p b q m L)).1, (shutO N (boundL n1 a p b q m L)).2.1, (shutO N (boundL n1 a p b q m L)).2.2, none)) := by
                show _ = _
                rw [hR2, if_neg hab]
                rfl
              have Hab := Lib.hid hab
              clear hR2 hab
              as_aux_lemma =>
               go_enter Tryd.func57, Tryd.ntmps57
               go_wp2_with fail
               refine (HV.out _ HW.out).mono ?_
               rintro e w1 ⟨rfl, hb1⟩
               have HW1 := Lib.hid (below_then HW.out hb1)
               have K0 := Lib.hid (H0.out.below hb1)
               have K1 := Lib.hid (H1.out.below hb1)
               obtain ⟨bl, b0, b1, bf0, bf1⟩ := K0.out
               clear hb1
               simp only [errW_none]
               go_wp2_with fail
               refine (HVar.out _ _ ⟨rfl, fun _ => ⟨_, 0, rfl, fun k hk => ?_⟩⟩).mono ?_
               · rcases Nat.lt_or_ge k 1 with h | h
                 · obtain rfl : k = 0 := by omega
                   simp [go_sem]
                 · obtain rfl : k = 1 := by omega
                   simp [go_sem]
               rintro e w2 ⟨rfl, hb2⟩
               have HW2 := Lib.hid (below_then (Go.Proofs.Rcn.below_alloc HW1.out _) hb2)
               have M0 := Lib.hid ((K0.out.alloc _).below hb2)
               have M1 := Lib.hid ((K1.out.alloc _).below hb2)
               clear hb2 bl b0 b1 bf0 bf1
               go_wp2_with fail
               refine (HSig.out _ _ ⟨rfl, fun _ => ⟨_, 0, rfl, fun k hk => ?_⟩⟩).mono ?_
               · rcases Nat.lt_or_ge k 1 with h | h
                 · obtain rfl : k = 0 := by omega
                   simp [go_sem]
                 · obtain rfl : k = 1 := by omega
                   simp [go_sem]
               rintro e w2s ⟨rfl, hb2s⟩
               have HW2s := Lib.hid (below_then (Go.Proofs.Rcn.below_alloc HW2.out _) hb2s)
               have M0s := Lib.hid ((M0.out.alloc _).below hb2s)
               have M1s := Lib.hid ((M1.out.alloc _).below hb2s)
               clear hb2s
               obtain ⟨bl, b0, b1, bf0, bf1⟩ := M0s.out
               go_wp2_with fail
               refine (HFar.out _).mono ?_
               rintro e w2' ⟨rfl, rfl⟩
               go_wp2_with fail
               refine (clone_any A n c N L _ (HZ.out.below HW2s.out) (by omega)).mono ?_
               rintro e w3 ⟨A3, c3, rfl, hr3, hb3⟩
               obtain ⟨g, cap, hv3, hg1, hg2⟩ := hr3.form (by rw [HL.out]; omega)
               simp only [Value.slice.injEq] at hv3
               obtain ⟨rfl, -, rfl⟩ := hv3
               have HW3 := Lib.hid (below_then HW2s.out hb3)
               have P1 := Lib.hid (M1s.out.below hb3)
               have HR3 := Lib.hid hr3
               have hgl : w2'.heap.size ≤ g := hg1
               have hwl := M1s.out.lt
               have hwl3 := P1.out.lt
               clear hb3 hr3 bl b0 b1 bf0 bf1 hg1
               go_wp2_with fail
               refine (bound_any n1 p q g n c3 w2'.heap.size N a b m L _ HN.out h15 HL2.out hp1 hq1 Ha.out Hb.out Hab.out Hm.out (HR3.out.alloc _) (by simp; omega) HL.out.symm).mono ?_
               rintro e w5 ⟨rfl, hz5, hbut5⟩
               have HW5 : Hid (Below w.heap.size w w5) := hbut5.below (Go.Proofs.Rcn.below_alloc HW3.out _) (by simp; omega) (by omega)
               have Q1 : Hid (Cell2 w5 (w.heap.size + 1) (.int .i64 0) (.slice none 0 0)) := (P1.out.alloc _).but hbut5 (by omega)
               have Q2 : Hid (Cell2 w5 w3.heap.size (.int .i64 N) (.slice (some ⟨g, 0, none⟩) n c3)) := (Cell2.new w3 _ _ _).but hbut5 (by omega)
               have RX := Lib.hid hz5.rcel.1
               clear hbut5 hz5
               obtain ⟨bl, b0, b1, bf0, bf1⟩ := Q2.out
               go_wp2_with fail
               refine (zclose_any (some ⟨g, 0, none⟩) n1 n c3 N (boundL n1 a p b q m L) _ HN.out h15 HL2.out RX.out rfl).mono ?_
               rintro e w6 ⟨z4, A4, n4, c4, ok4, rfl, hp6, hb6⟩
               have HW6 := Lib.hid (below_then HW5.out hb6)
               have S1 := Lib.hid (Q1.out.below hb6)
               have S2 := Lib.hid (Q2.out.below hb6)
               have hw6 : w.heap.size ≤ w5.heap.size := HW5.out.size
               have hq1l := Q1.out.lt
               have hq2l := Q2.out.lt
               clear hb6 bl b0 b1 bf0 bf1
               obtain ⟨rl, r0, r1, rf0, rf1⟩ := S1.out
               obtain ⟨bl, b0, b1, bf0, bf1⟩ := S2.out
               have HR1 := Lib.hid HR.out
               unfold shutO at HR1
               rw [HEn.out] at HR1
               clear HR
               generalize closeO n1 (boundL n1 a p b q m L) = C at hp6 HR1
               cases C with
               | none =>
                 obtain ⟨rfl, rfl, rfl, rfl, rfl⟩ := hp6
                 obtain rfl : R = (0, [], false, none) := HR1.out
                 go_wp2
                 refine bodyPost_ret (v := .tuple #[.agg #[.int .i64 0, .slice none 0 0], .bool false, errW none]) (by simp [results, Tryd.results57, go_sem, rl, r0, r1, rf0, rf1, bl, b0, b1, errW_none]) rfl (ZRet.no ?_)
                 repeat (first | exact HW6.out | refine Go.Proofs.Rcn.below_set ?_ (by simp <;> omega) _ | refine Go.Proofs.Rcn.below_drew ?_)
               | some C =>
                 obtain ⟨rfl, rfl, rfl, hr6⟩ := hp6
                 obtain rfl : R = (z4, oces C, true, none) := HR1.out
                 have HR6 := Lib.hid hr6
                 clear hr6
                 go_wp2
                 refine bodyPost_ret (v := .tuple #[.agg #[.int .i64 z4, .slice A4 n4 c4], .bool true, errW none]) (by simp [results, Tryd.results57, go_sem, rl, r0, r1, rf0, rf1, bl, b0, b1, errW_none]) rfl ⟨.slice A4 n4 c4, rfl, ?_, ?_⟩
                 · have k1 := ownsRow_setCell_below HR6.out (a := ⟨w3.heap.size, 0, none⟩) (by simp <;> omega) (.int .i64 z4)
                   have k2 := ownsRow_setCell_below k1 (a := ⟨w3.heap.size, 1, none⟩) (by simp <;> omega) (.slice A4 n4 c4)
                   have k3 := ownsRow_setCell_below k2 (a := ⟨w.heap.size + 1, 0, none⟩) (by simp <;> omega) (.int .i64 z4)
                   have k4 := ownsRow_setCell_below k3 (a := ⟨w.heap.size + 1, 1, none⟩) (by simp <;> omega) (.slice A4 n4 c4)
                   exact R_of_zrow (ZRow.low k4 (by omega))
                 · repeat (first | exact HW6.out | refine Go.Proofs.Rcn.below_set ?_ (by simp <;> omega) _ | refine Go.Proofs.Rcn.below_drew ?_)
theorem octagon_Guard.calls [EA] (a0_0 : Int) (A0_1 : Option Addr) (c0_1 : Nat) (l0_1 : List OC) (a1 : Int) (a2 : Int) (a3 : Int) (a4 : Int) (a5 : Int) (r1 : Int) (r2 : List OC) (r3 : Bool) (r4 : Option Int) (w : World) (hr0_1 : Kd.C k146 w A0_1 l0_1.length l0_1) (hc0_1 : l0_1.length ≤ c0_1) (h : octagon_Guard.f a0_0 l0_1 a1 a2 a3 a4 a5 = some (r1, r2, r3, r4)) (h2_ : ErrAt 2 1 w) (h3_ : ErrAt 3 0 w) (h7_ : ErrAt 7 3 w) :
    Calls Tryd.prog 57 #[.agg #[.int .i64 a0_0, .slice A0_1 l0_1.length c0_1], .int .i64 a1, .int .i64 a2, .int .i64 a3, .int .i64 a4, .int .i64 a5] w fun e w' => ∃ v1_ : Value, e = .returned (.tuple #[.agg #[.int .i64 r1, v1_], .bool r3, errW r4]) ∧ Kd.R k146 146 w' w.heap.size (fun _ => True) v1_ r2 ∧ Below w.heap.size w w' := by
  have e : guardR a0_0 (ocels l0_1) a1 a2 a3 a4 a5 = (r1, r2, r3, r4) := by
    unfold octagon_Guard.f at h
    unfold guardR
    cases hE : oErr a0_0 (ocels l0_1) with
    | some er => rw [hE] at h; exact Option.some.inj h
    | none =>
      rw [hE] at h
      simp only at h ⊢
      by_cases c1 : (a2 < 0 ∨ a2 ≥ a0_0 ∨ a4 < 0 ∨ a4 ≥ a0_0) ∨ (a1 < -1 ∨ a1 > 1 ∨ a3 < -1 ∨ a3 > 1) ∨ a2 = a4
      · rw [if_pos c1] at h ⊢; exact Option.some.inj h
      · rw [if_neg c1] at h ⊢
        by_cases c2 : zfar a5 = true
        · rw [if_pos c2] at h ⊢; exact Option.some.inj h
        · rw [if_neg c2] at h ⊢
          by_cases c3 : a1 = 0 ∧ a3 = 0
          · rw [if_pos c3] at h ⊢
            by_cases c4 : a5 < 0
            · rw [if_pos c4] at h ⊢; exact Option.some.inj h
            · rw [if_neg c4] at h ⊢; exact Option.some.inj h
          · rw [if_neg c3] at h ⊢; exact Option.some.inj h
  have q := zguard_any A0_1 l0_1.length c0_1 a0_0 a1 a2 a3 a4 a5 (ocels l0_1) w (rcel_of_C hr0_1) h2_ h3_ h7_
  rw [e] at q
  exact q
end Go.Proofs.Rco
