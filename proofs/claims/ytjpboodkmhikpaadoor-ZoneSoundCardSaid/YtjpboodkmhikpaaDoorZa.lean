/- Package zone: a variable becomes another one and a number. -/
import Derived.Test.YtjpboodkmhikpaaDoorZo
import Derived.Test.YtjpboodkmhikpaaDoorZm
set_option linter.unusedVariables false
set_option linter.unusedSimpArgs false
namespace Go.Proofs.Rcg
open Go Go.RowKit Go.Proofs.Rcn Go.Proofs.YtjpboodkmhikpaaDoor.Z Go.Proofs.YtjpboodkmhikpaaDoorW.PrintWords Go.Proofs.YtjpboodkmhikpaaDoorW.PrintLast

section
variable {w1 wr : World} {bo g n c : Nat} {N : Int} {X : List Cel}
theorem MW.put (h : MW w1 bo g n c N X wr) (hg : w1.heap.size ≤ g) (hbo : bo ≠ g) (k : Nat) (a : Bool) (m : Int) :
    MW w1 bo g n c N (X.set k ⟨a, m⟩) ((wr.setCell ⟨g, k * 2, none⟩ (.bool a)).setCell ⟨g, k * 2 + 1, none⟩ (.int .i64 m)) :=
  ⟨Go.Proofs.Rcn.below_set (Go.Proofs.Rcn.below_set h.below hg _) hg _, (h.out.set (by omega) _ _).set (by omega) _ _, h.row.put h.ln k a m, by rw [List.length_set]; exact h.ln⟩
theorem MW.put1 (h : MW w1 bo g n c N X wr) (hg : w1.heap.size ≤ g) (hbo : bo ≠ g) (k : Nat) (m : Int) :
    MW w1 bo g n c N (X.set k ⟨(cg X k).has, m⟩) (wr.setCell ⟨g, k * 2 + 1, none⟩ (.int .i64 m)) :=
  ⟨Go.Proofs.Rcn.below_set h.below hg _, h.out.set (by omega) _ _, h.row.put1 h.ln k m, by rw [List.length_set]; exact h.ln⟩
end
def assignR (N : Int) (L : List Cel) (x y m : Int) : Int × List ZC × Bool × Option Int :=
  match zErr N L with
  | some e => (0, [], false, some e)
  | none => if x < 1 ∨ x > N ∨ y < 0 ∨ y > N then (0, [], false, some 3) else if zfar m = true then (0, [], false, some 2) else
    match closeZ (N + 1).toNat L with
    | none => (0, [], false, none)
    | some C => ((shutZ N (assignL (N + 1).toNat x.toNat y.toNat m C)).1, (shutZ N (assignL (N + 1).toNat x.toNat y.toNat m C)).2.1, (shutZ N (assignL (N + 1).toNat x.toNat y.toNat m C)).2.2, none)
set_option maxRecDepth 100000 in
set_option maxHeartbeats 4000000 in
theorem zassign_any [EA] (A : Option Addr) (n c : Nat) (N x y m : Int) (L : List Cel) (w : World) (hz : RCel w A n L) (h2 : ErrAt 2 1 w) (h3 : ErrAt 3 0 w) :
    Calls Tryd.prog 60 #[.agg #[.int .i64 N, .slice A n c], .int .i64 x, .int .i64 y, .int .i64 m] w (ZRet w (assignR N L x y m)) := by
  have HL := Lib.hid hz.1
  have HZ := Lib.hid hz
  have HE3 := Lib.hid h3
  have HE2 := Lib.hid h2
  have hv := fun W (h : Below w.heap.size w W) => zvalid_any A n c N L W (hz.below h) (h2.below h) (h3.below h)
  obtain ⟨R, hR⟩ : ∃ R, R = assignR N L x y m := ⟨_, rfl⟩
  rw [← hR]
  have l3 := h3.lt
  have l2 := h2.lt
  clear hz h2 h3
  have H0 : Hid (Cell2 ((w.alloc (.cells #[.int .i64 N, .slice A n c] 37)).alloc (.cells #[.int .i64 0, .slice none 0 0] 37)) w.heap.size (.int .i64 N) (.slice A n c)) := (Cell2.new w _ _ _).alloc _
  have H1 : Hid (Cell2 ((w.alloc (.cells #[.int .i64 N, .slice A n c] 37)).alloc (.cells #[.int .i64 0, .slice none 0 0] 37)) (w.heap.size + 1) (.int .i64 0) (.slice none 0 0)) := by
    have := Cell2.new (w.alloc (.cells #[.int .i64 N, .slice A n c] 37)) (.int .i64 0) (.slice none 0 0) 37
    show Cell2 _ _ _ _
    simpa using this
  have HW : Hid (Below w.heap.size w ((w.alloc (.cells #[.int .i64 N, .slice A n c] 37)).alloc (.cells #[.int .i64 0, .slice none 0 0] 37))) := Go.Proofs.Rcn.below_alloc (Go.Proofs.Rcn.below_alloc (Below.refl _ _) _) _
  cases hE : zErr N L with
  | some er =>
    obtain rfl : R = (0, [], false, some er) := by rw [hR]; unfold assignR; rw [hE]
    rw [hE] at hv
    have HV := Lib.hid hv
    clear hE hR hv
    go_enter Tryd.func60, Tryd.ntmps60
    go_wp2_with fail
    refine (HV.out _ HW.out).mono ?_
    rintro e w1 ⟨rfl, hb1⟩
    have HW1 := Lib.hid (below_then HW.out hb1)
    obtain ⟨rl, r0, r1, rf0, rf1⟩ := H1.out.below hb1
    clear hb1
    simp only [errW_some]
    go_wp2
    refine bodyPost_ret (v := .tuple #[.agg #[.int .i64 0, .slice none 0 0], .bool false, errW (some er)]) (by simp [results, Tryd.results60, go_sem, rl, r0, r1, rf0, rf1, errW_some]) rfl (ZRet.no ?_)
    repeat (first | exact HW1.out | refine Go.Proofs.Rcn.below_set ?_ (by simp) _)
  | none =>
    obtain ⟨n1, hn1, h11, h15, hlen, hbad, hfar⟩ := zErr_none hE
    clear hbad hfar
    rw [hE] at hv
    have HV := Lib.hid hv
    have HN := Lib.hid hn1
    have HLen := Lib.hid hlen
    clear hv hn1 hlen
    have HX : Hid (∀ W A2, RInts W A2 1 [x] → Calls Tryd.prog 72 #[.agg #[.int .i64 N, .slice A n c], .int .i64 1, .slice A2 1 1] W fun e w' => e = .returned (.bool (!decide (x < 1 ∨ x > N))) ∧ Below W.heap.size W w') := by
      intro W A2 h
      have := zvar_any A n c N 1 A2 1 1 [x] W h (by omega)
      simpa only [List.any_cons, List.any_nil, Bool.or_false] using this
    have HY : Hid (∀ W A2, RInts W A2 1 [y] → Calls Tryd.prog 72 #[.agg #[.int .i64 N, .slice A n c], .int .i64 0, .slice A2 1 1] W fun e w' => e = .returned (.bool (!decide (y < 0 ∨ y > N))) ∧ Below W.heap.size W w') := by
      intro W A2 h
      have := zvar_any A n c N 0 A2 1 1 [y] W h (by omega)
      simpa only [List.any_cons, List.any_nil, Bool.or_false] using this
    by_cases hx : x < 1 ∨ x > N
    · obtain rfl : R = (0, [], false, some 3) := by rw [hR]; unfold assignR; rw [hE]; simp only; rw [if_pos (by omega)]
      rw [decide_eq_true hx] at HX
      clear hE hR hx HY
      go_enter Tryd.func60, Tryd.ntmps60
      go_wp2_with fail
      refine (HV.out _ HW.out).mono ?_
      rintro e w1 ⟨rfl, hb1⟩
      have HW1 := Lib.hid (below_then HW.out hb1)
      have K0 := Lib.hid (H0.out.below hb1)
      have K1 := Lib.hid (H1.out.below hb1)
      obtain ⟨bl, b0, b1, bf0, bf1⟩ := K0.out
      clear hb1
      simp only [errW_none]
      go_wp2_with fail
      refine (HX.out _ _ ⟨rfl, fun _ => ⟨_, 0, rfl, fun k hk => ?_⟩⟩).mono ?_
      · obtain rfl : k = 0 := by omega
        simp [go_sem]
      rintro e w2 ⟨rfl, hb2⟩
      have HW2 := Lib.hid (below_then (Go.Proofs.Rcn.below_alloc HW1.out _) hb2)
      have M0 := Lib.hid ((K0.out.alloc _).below hb2)
      have M1 := Lib.hid ((K1.out.alloc _).below hb2)
      clear hb2 bl b0 b1 bf0 bf1
      obtain ⟨rl, r0, r1, rf0, rf1⟩ := M1.out
      have e3 := (HE3.out.below HW2.out).cell
      have e3l := (HE3.out.below HW2.out).lt
      go_wp2_with fail
      go_region
      all_goals (try go_wp2)
      all_goals
        refine bodyPost_ret (v := .tuple #[.agg #[.int .i64 0, .slice none 0 0], .bool false, errW (some 3)]) (by simp [results, Tryd.results60, go_sem, rl, r0, r1, rf0, rf1, errW_some]) rfl (ZRet.no ?_)
        repeat (first | exact HW2.out | refine Go.Proofs.Rcn.below_set ?_ (by simp) _ | refine Go.Proofs.Rcn.below_drew ?_)
    rw [decide_eq_false hx] at HX
    by_cases hy : y < 0 ∨ y > N
    · obtain rfl : R = (0, [], false, some 3) := by rw [hR]; unfold assignR; rw [hE]; simp only; rw [if_pos (by omega)]
      rw [decide_eq_true hy] at HY
      clear hE hR hx hy
      go_enter Tryd.func60, Tryd.ntmps60
      go_wp2_with fail
      refine (HV.out _ HW.out).mono ?_
      rintro e w1 ⟨rfl, hb1⟩
      have HW1 := Lib.hid (below_then HW.out hb1)
      have K0 := Lib.hid (H0.out.below hb1)
      have K1 := Lib.hid (H1.out.below hb1)
      obtain ⟨bl, b0, b1, bf0, bf1⟩ := K0.out
      clear hb1
      simp only [errW_none]
      go_wp2_with fail
      refine (HX.out _ _ ⟨rfl, fun _ => ⟨_, 0, rfl, fun k hk => ?_⟩⟩).mono ?_
      · obtain rfl : k = 0 := by omega
        simp [go_sem]
      rintro e w2 ⟨rfl, hb2⟩
      have HW2 := Lib.hid (below_then (Go.Proofs.Rcn.below_alloc HW1.out _) hb2)
      have M0 := Lib.hid ((K0.out.alloc _).below hb2)
      have M1 := Lib.hid ((K1.out.alloc _).below hb2)
      clear hb2 bl b0 b1 bf0 bf1
      obtain ⟨bl, b0, b1, bf0, bf1⟩ := M0.out
      go_wp2_with fail
      refine (HY.out _ _ ⟨rfl, fun _ => ⟨_, 0, rfl, fun k hk => ?_⟩⟩).mono ?_
      · obtain rfl : k = 0 := by omega
        simp [go_sem]
      rintro e wy ⟨rfl, hby⟩
      have HWy := Lib.hid (below_then (Go.Proofs.Rcn.below_alloc HW2.out _) hby)
      have Y0 := Lib.hid ((M0.out.alloc _).below hby)
      have Y1 := Lib.hid ((M1.out.alloc _).below hby)
      clear hby bl b0 b1 bf0 bf1
      obtain ⟨rl, r0, r1, rf0, rf1⟩ := Y1.out
      have e3 := (HE3.out.below HWy.out).cell
      have e3l := (HE3.out.below HWy.out).lt
      go_wp2_with fail
      go_region
      all_goals (try go_wp2)
      all_goals
        refine bodyPost_ret (v := .tuple #[.agg #[.int .i64 0, .slice none 0 0], .bool false, errW (some 3)]) (by simp [results, Tryd.results60, go_sem, rl, r0, r1, rf0, rf1, errW_some]) rfl (ZRet.no ?_)
        repeat (first | exact HWy.out | refine Go.Proofs.Rcn.below_set ?_ (by simp) _ | refine Go.Proofs.Rcn.below_drew ?_)
    rw [decide_eq_false hy] at HY
    obtain ⟨f, hf⟩ : ∃ f, f = zfar m := ⟨_, rfl⟩
    have hfar := fun W => zfar_any m W
    rw [← hf] at hfar
    have HFar := Lib.hid hfar
    clear hfar
    cases f with
    | true =>
      obtain rfl : R = (0, [], false, some 2) := by rw [hR]; unfold assignR; rw [hE]; simp only; rw [if_neg (by omega), if_pos hf.symm]
      clear hE hR hx hy hf
      go_enter Tryd.func60, Tryd.ntmps60
      go_wp2_with fail
      refine (HV.out _ HW.out).mono ?_
      rintro e w1 ⟨rfl, hb1⟩
      have HW1 := Lib.hid (below_then HW.out hb1)
      have K0 := Lib.hid (H0.out.below hb1)
      have K1 := Lib.hid (H1.out.below hb1)
      obtain ⟨bl, b0, b1, bf0, bf1⟩ := K0.out
      clear hb1
      simp only [errW_none]
      go_wp2_with fail
      refine (HX.out _ _ ⟨rfl, fun _ => ⟨_, 0, rfl, fun k hk => ?_⟩⟩).mono ?_
      · obtain rfl : k = 0 := by omega
        simp [go_sem]
      rintro e w2 ⟨rfl, hb2⟩
      have HW2 := Lib.hid (below_then (Go.Proofs.Rcn.below_alloc HW1.out _) hb2)
      have M0 := Lib.hid ((K0.out.alloc _).below hb2)
      have M1 := Lib.hid ((K1.out.alloc _).below hb2)
      clear hb2 bl b0 b1 bf0 bf1
      obtain ⟨bl, b0, b1, bf0, bf1⟩ := M0.out
      go_wp2_with fail
      refine (HY.out _ _ ⟨rfl, fun _ => ⟨_, 0, rfl, fun k hk => ?_⟩⟩).mono ?_
      · obtain rfl : k = 0 := by omega
        simp [go_sem]
      rintro e wy ⟨rfl, hby⟩
      have HWy := Lib.hid (below_then (Go.Proofs.Rcn.below_alloc HW2.out _) hby)
      have Y0 := Lib.hid ((M0.out.alloc _).below hby)
      have Y1 := Lib.hid ((M1.out.alloc _).below hby)
      clear hby bl b0 b1 bf0 bf1
      obtain ⟨bl, b0, b1, bf0, bf1⟩ := Y0.out
      go_wp2_with fail
      refine (HFar.out _).mono ?_
      rintro e w9 ⟨rfl, rfl⟩
      obtain ⟨rl, r0, r1, rf0, rf1⟩ := Y1.out
      have e3 := (HE2.out.below HWy.out).cell
      have e3l := (HE2.out.below HWy.out).lt
      go_wp2_with fail
      go_region
      all_goals (try go_wp2)
      all_goals
        refine bodyPost_ret (v := .tuple #[.agg #[.int .i64 0, .slice none 0 0], .bool false, errW (some 2)]) (by simp [results, Tryd.results60, go_sem, rl, r0, r1, rf0, rf1, errW_some]) rfl (ZRet.no ?_)
        repeat (first | exact HWy.out | refine Go.Proofs.Rcn.below_set ?_ (by simp) _ | refine Go.Proofs.Rcn.below_drew ?_)
    | false =>
      obtain ⟨p, hp⟩ : ∃ p : Nat, x = p := ⟨x.toNat, by omega⟩
      obtain ⟨p2, hq⟩ : ∃ q : Nat, y = q := ⟨y.toNat, by omega⟩
      subst hp hq
      have hp1 : p < n1 := by have := HN.out; omega
      have hp2 : p2 < n1 := by have := HN.out; omega
      have hL2 : n = n1 * n1 := by rw [← HL.out]; exact HLen.out
      have en : (N + 1).toNat = n1 := by have := HN.out; omega
      have hmb : -1099511627776 ≤ m ∧ m ≤ 1099511627776 := by unfold zfar at hf; have := of_decide_eq_false hf.symm; omega
      have hR' : R = (match closeZ n1 L with
        | none => (0, [], false, none)
        | some C => match closeZ n1 (assignL n1 p p2 m C) with
          | none => (0, [], false, none)
          | some D => (N, zces D, true, none)) := by
        rw [hR]; unfold assignR; rw [hE]; simp only
        rw [if_neg (by omega), if_neg (by rw [← hf]; decide), en]
        cases closeZ n1 L with
        | none => rfl
        | some C =>
          simp only [Int.toNat_natCast]
          unfold shutZ
          rw [en]
          cases closeZ n1 (assignL n1 p p2 m C) <;> rfl
      obtain ⟨CL, hCL⟩ : ∃ C, closeZ n1 L = C := ⟨_, rfl⟩
      rw [hCL] at hR'
      have HR := Lib.hid hR'
      have HCL := Lib.hid hCL
      have hlen1 : 1 ≤ n ∧ n ≤ 25 := by rw [hL2]; exact ⟨Nat.mul_le_mul h11 h11, Nat.mul_le_mul h15 h15⟩
      have HL2 := Lib.hid hL2
      clear hE hR hx hy hf hR' hCL hL2 en
      go_enter Tryd.func60, Tryd.ntmps60
      go_wp2_with fail
      refine (HV.out _ HW.out).mono ?_
      rintro e w1 ⟨rfl, hb1⟩
      have HW1 := Lib.hid (below_then HW.out hb1)
      have K0 := Lib.hid (H0.out.below hb1)
      have K1 := Lib.hid (H1.out.below hb1)
      obtain ⟨bl, b0, b1, bf0, bf1⟩ := K0.out
      clear hb1
      simp only [errW_none]
      go_wp2_with fail
      refine (HX.out _ _ ⟨rfl, fun _ => ⟨_, 0, rfl, fun k hk => ?_⟩⟩).mono ?_
      · obtain rfl : k = 0 := by omega
        simp [go_sem]
      rintro e w2 ⟨rfl, hb2⟩
      have HW2 := Lib.hid (below_then (Go.Proofs.Rcn.below_alloc HW1.out _) hb2)
      have M0 := Lib.hid ((K0.out.alloc _).below hb2)
      have M1 := Lib.hid ((K1.out.alloc _).below hb2)
      clear hb2 bl b0 b1 bf0 bf1
      obtain ⟨bl, b0, b1, bf0, bf1⟩ := M0.out
      go_wp2_with fail
      refine (HY.out _ _ ⟨rfl, fun _ => ⟨_, 0, rfl, fun k hk => ?_⟩⟩).mono ?_
      · obtain rfl : k = 0 := by omega
        simp [go_sem]
      rintro e wy ⟨rfl, hby⟩
      have HWy := Lib.hid (below_then (Go.Proofs.Rcn.below_alloc HW2.out _) hby)
      have Y0 := Lib.hid ((M0.out.alloc _).below hby)
      have Y1 := Lib.hid ((M1.out.alloc _).below hby)
      clear hby bl b0 b1 bf0 bf1
      obtain ⟨bl, b0, b1, bf0, bf1⟩ := Y0.out
      go_wp2_with fail
      refine (HFar.out _).mono ?_
      rintro e w9 ⟨rfl, rfl⟩
      go_wp2_with fail
      refine (zclose_any A n1 n c N L _ HN.out h11 h15 HL2.out (HZ.out.below HWy.out) HCL.out).mono ?_
      rintro e w3 ⟨z3, A3, n3, c3, ok3, rfl, hp3, hb3⟩
      have HW3 := Lib.hid (below_then HWy.out hb3)
      have P0 := Lib.hid (Y0.out.below hb3)
      have P1 := Lib.hid (Y1.out.below hb3)
      have HB3 := Lib.hid hb3
      have hwy := HWy.out.size
      have hp1l := Y1.out.lt
      have hp3l := P1.out.lt
      clear hb3 bl b0 b1 bf0 bf1
      cases CL with
      | none =>
        obtain ⟨rfl, rfl, rfl, rfl, rfl⟩ := hp3
        obtain rfl : R = (0, [], false, none) := HR.out
        obtain ⟨rl, r0, r1, rf0, rf1⟩ := P1.out
        go_wp2
        refine bodyPost_ret (v := .tuple #[.agg #[.int .i64 0, .slice none 0 0], .bool false, errW none]) (by simp [results, Tryd.results60, go_sem, rl, r0, r1, rf0, rf1, errW_none]) rfl (ZRet.no ?_)
        repeat (first | exact HW3.out | refine Go.Proofs.Rcn.below_alloc ?_ _ | refine Go.Proofs.Rcn.below_set ?_ (by first | (simp; done) | (simp; omega)) _ | refine Go.Proofs.Rcn.below_drew ?_)
      | some C =>
        obtain ⟨rfl, rfl, rfl, hr3⟩ := hp3
        have HR2 : Hid (R = match closeZ n1 (assignL n1 p p2 m C) with
          | none => (0, [], false, none)
          | some D => (z3, zces D, true, none)) := HR.out
        clear HR
        have hlenC := hr3.rcel.1.1
        obtain ⟨g, cap, hv3, hg1, hg2⟩ := hr3.form (by rw [hlenC]; omega)
        simp only [Value.slice.injEq] at hv3
        obtain ⟨rfl, -, rfl⟩ := hv3
        have hbo : w3.heap.size ≠ g := by omega
        have HS : Hid (MW w9 w3.heap.size g n3 c3 z3 C (w3.alloc (.cells #[.int .i64 z3, .slice (some ⟨g, 0, none⟩) n3 c3] 37))) := ⟨Go.Proofs.Rcn.below_alloc HB3.out _, Cell2.new w3 _ _ _, hr3.alloc _, hlenC.symm⟩
        have HlC := Lib.hid hlenC
        clear hr3 hlenC
        by_cases hxy : p = p2
        · subst hxy
          obtain ⟨bl, b0, b1, bf0, bf1⟩ := P0.out
          have hNb : 0 ≤ z3 ∧ z3 ≤ 4 := by have := HN.out; omega
          have hN1 : z3 + 1 ≤ n1 ∧ (n1 : Int) ≤ z3 + 1 := by have := HN.out; omega
          go_wp2
          go_loopw [55] (fun i wr => ∃ q : Nat, q ≤ n1 ∧ i = .int .i64 q ∧ Hid (MW w9 w3.heap.size g n3 c3 z3 (rep (shiftI n1 p m) q C) wr)) (fun i _ => n1 - (intOf i).toNat)
          case atStart => exact ⟨0, Nat.zero_le _, rfl, HS⟩
          case round =>
            obtain ⟨q, hq, rfl, HQ⟩ := hrel
            clear HS bl b0 b1 bf0 bf1
            obtain ⟨bl, b0, b1, bf0, bf1⟩ := HQ.out.out
            by_cases hlt : q < n1
            · have hltz : (q : Int) < z3 + 1 := by omega
              have HSt : Hid (rep (shiftI n1 p m) (q + 1) C = shiftI n1 p m (rep (shiftI n1 p m) q C) q) := rfl
              have HlX : Hid ((rep (shiftI n1 p m) q C).length = n3) := HQ.out.ln.symm
              generalize rep (shiftI n1 p m) q C = X at HQ HSt HlX
              by_cases hqp : q = p
              · subst hqp
                have HEq : Hid (shiftI n1 q m X q = X) := by show _ = _; unfold shiftI; rw [if_pos rfl]
                go_wp2
                exact ⟨⟨q + 1, by omega, by go_num, by show MW _ _ _ _ _ _ _ _; rw [HSt.out, HEq.out]; exact HQ.out⟩, by simp [intOf]; omega⟩
              · have hq2 : ¬ (q : Int) = (p : Int) := by omega
                have hq3 : decide ((q : Int) = (p : Int)) = false := decide_eq_false hq2
                have hq4 : decide (q = p) = false := decide_eq_false hqp
                obtain ⟨X1, hX1⟩ : ∃ X1, X1 = X.set (q * n1 + p) (addC (cg X (q * n1 + p)) m) := ⟨_, rfl⟩
                have HEq : Hid (shiftI n1 p m X q = X1.set (p * n1 + q) (addC (cg X1 (p * n1 + q)) (-m))) := by show _ = _; unfold shiftI; rw [if_neg hqp, hX1]
                have i1 : q * n1 + p < n3 := by rw [HL2.out]; exact idx_lt hlt hp1
                have i2 : p * n1 + q < n3 := by rw [HL2.out]; exact idx_lt hp1 hlt
                go_wp2_with fail
                refine (at_easy n1 q p HN.out (by omega) HL2.out hlt hp1).mono ?_
                rintro e w5 ⟨rfl, o1, rfl⟩
                have HA := Lib.hid (HQ.out.alloc o1)
                have c0 := HA.out.row.at0 HA.out.ln i1
                have c1 := HA.out.row.at1 HA.out.ln i1
                have f1 := HA.out.row.free HA.out.ln ((q * n1 + p) * 2 + 1)
                have HP1 := Lib.hid (fun m' => HA.out.put1 hg1 hbo (q * n1 + p) m')
                have HSelf := Lib.hid (set_self X (q * n1 + p))
                generalize cg X (q * n1 + p) = cx at c0 c1 hX1 HP1 HSelf
                obtain ⟨ch, cm⟩ := cx
                simp only at c0 c1
                try simp only at HP1
                cases ch with
                | false =>
                  have HB : Hid (MW w9 w3.heap.size g n3 c3 z3 X1 (wr.alloc o1)) := by
                    show MW _ _ _ _ _ _ _ _
                    rw [hX1, show addC ⟨false, cm⟩ m = ⟨false, cm⟩ from rfl, HSelf.out]
                    exact HA.out
                  clear hX1 HP1 HSelf HQ
                  go_wp2_with fail
                  refine (at_easy n1 p q HN.out (by omega) HL2.out hp1 hlt).mono ?_
                  rintro e w6 ⟨rfl, o2, rfl⟩
                  have HC := Lib.hid (HB.out.alloc o2)
                  have d0 := HC.out.row.at0 HC.out.ln i2
                  have d1 := HC.out.row.at1 HC.out.ln i2
                  have f2 := HC.out.row.free HC.out.ln ((p * n1 + q) * 2 + 1)
                  have HP2 := Lib.hid (fun m' => HC.out.put1 hg1 hbo (p * n1 + q) m')
                  have HSelf2 := Lib.hid (set_self X1 (p * n1 + q))
                  generalize cg X1 (p * n1 + q) = dx at d0 d1 HEq HP2 HSelf2
                  obtain ⟨dh, dm⟩ := dx
                  simp only at d0 d1
                  try simp only at HP2
                  cases dh with
                  | false =>
                    have HM2 : Hid (addC ⟨false, dm⟩ (-m) = ⟨false, dm⟩) := rfl
                    go_wp2
                    exact ⟨⟨q + 1, by omega, by go_num, by show MW _ _ _ _ _ _ _ _; rw [HSt.out, HEq.out, HM2.out, HSelf2.out]; exact HC.out⟩, by simp [intOf]; omega⟩
                  | true =>
                    have HM2 : Hid (addC ⟨true, dm⟩ (-m) = ⟨true, wrap64 (dm - m)⟩) := by show _ = _; unfold addC; rw [if_pos rfl, Int.sub_eq_add_neg]
                    go_wp2
                    exact ⟨⟨q + 1, by omega, by go_num, by show MW _ _ _ _ _ _ _ _; rw [HSt.out, HEq.out, HM2.out]; exact HP2.out _⟩, by simp [intOf]; omega⟩
                | true =>
                  have HB : Hid (MW w9 w3.heap.size g n3 c3 z3 X1 ((wr.alloc o1).setCell ⟨g, (q * n1 + p) * 2 + 1, none⟩ (.int .i64 (wrap64 (cm + m))))) := by
                    show MW _ _ _ _ _ _ _ _
                    rw [hX1, show addC ⟨true, cm⟩ m = ⟨true, wrap64 (cm + m)⟩ from rfl]
                    exact HP1.out _
                  clear hX1 HP1 HSelf HQ
                  obtain ⟨ul, u0, u1, uf0, uf1⟩ := HB.out.out
                  go_wp2_with fail
                  refine (at_easy n1 p q HN.out (by omega) HL2.out hp1 hlt).mono ?_
                  rintro e w6 ⟨rfl, o2, rfl⟩
                  have HC := Lib.hid (HB.out.alloc o2)
                  have d0 := HC.out.row.at0 HC.out.ln i2
                  have d1 := HC.out.row.at1 HC.out.ln i2
                  have f2 := HC.out.row.free HC.out.ln ((p * n1 + q) * 2 + 1)
                  have HP2 := Lib.hid (fun m' => HC.out.put1 hg1 hbo (p * n1 + q) m')
                  have HSelf2 := Lib.hid (set_self X1 (p * n1 + q))
                  generalize cg X1 (p * n1 + q) = dx at d0 d1 HEq HP2 HSelf2
                  obtain ⟨dh, dm⟩ := dx
                  simp only at d0 d1
                  try simp only at HP2
                  cases dh with
                  | false =>
                    have HM2 : Hid (addC ⟨false, dm⟩ (-m) = ⟨false, dm⟩) := rfl
                    go_wp2
                    exact ⟨⟨q + 1, by omega, by go_num, by show MW _ _ _ _ _ _ _ _; rw [HSt.out, HEq.out, HM2.out, HSelf2.out]; exact HC.out⟩, by simp [intOf]; omega⟩
                  | true =>
                    have HM2 : Hid (addC ⟨true, dm⟩ (-m) = ⟨true, wrap64 (dm - m)⟩) := by show _ = _; unfold addC; rw [if_pos rfl, Int.sub_eq_add_neg]
                    go_wp2
                    exact ⟨⟨q + 1, by omega, by go_num, by show MW _ _ _ _ _ _ _ _; rw [HSt.out, HEq.out, HM2.out]; exact HP2.out _⟩, by simp [intOf]; omega⟩
            · obtain rfl : q = n1 := by omega
              have hge : ¬ ((q : Int) < z3 + 1) := by omega
              have HE : Hid (MW w9 w3.heap.size g n3 c3 z3 (assignL q p p m C) wr) := by
                show MW _ _ _ _ _ _ _ _
                unfold assignL
                rw [if_pos rfl]
                exact HQ.out
              clear bl b0 b1 bf0 bf1
              have HB6 := Lib.hid (below_then HWy.out HE.out.below)
              have U1 := Lib.hid (Y1.out.below HE.out.below)
              obtain ⟨bl, b0, b1, bf0, bf1⟩ := HE.out.out
              go_wp2_with fail
              refine (zclose_any (some ⟨g, 0, none⟩) q n3 c3 z3 _ _ HN.out h11 h15 HL2.out HE.out.row.rcel.1 rfl).mono ?_
              rintro e w7 ⟨z7, A7, n7, c7, ok7, rfl, hp7, hb7⟩
              have HW7 := Lib.hid (below_then HB6.out hb7)
              have V1 := Lib.hid (U1.out.below hb7)
              have V2 := Lib.hid (HE.out.out.below hb7)
              have hw6 := HB6.out.size
              have hwy2 := HE.out.below.size
              have hu1 := U1.out.lt
              have hu2 := HE.out.out.lt
              clear hb7 bl b0 b1 bf0 bf1
              generalize closeZ q (assignL q p p m C) = D at hp7 HR2
              obtain ⟨rl, r0, r1, rf0, rf1⟩ := V1.out
              obtain ⟨bl, b0, b1, bf0, bf1⟩ := V2.out
              cases D with
              | none =>
                obtain ⟨rfl, rfl, rfl, rfl, rfl⟩ := hp7
                obtain rfl : R = (0, [], false, none) := HR2.out
                go_wp2
                refine bodyPost_ret (v := .tuple #[.agg #[.int .i64 0, .slice none 0 0], .bool false, errW none]) (by simp [results, Tryd.results60, go_sem, rl, r0, r1, rf0, rf1, bl, b0, b1, errW_none]) rfl (ZRet.no ?_)
                repeat (first | exact HW7.out | refine Go.Proofs.Rcn.below_alloc ?_ _ | refine Go.Proofs.Rcn.below_set ?_ (by first | (simp; done) | (simp; omega)) _ | refine Go.Proofs.Rcn.below_drew ?_)
              | some D =>
                obtain ⟨rfl, rfl, rfl, hr7⟩ := hp7
                obtain rfl : R = (z7, zces D, true, none) := HR2.out
                have HR7 := Lib.hid hr7
                clear hr7
                go_wp2
                refine bodyPost_ret (v := .tuple #[.agg #[.int .i64 z7, .slice A7 n7 c7], .bool true, errW none]) (by simp [results, Tryd.results60, go_sem, rl, r0, r1, rf0, rf1, bl, b0, b1, errW_none]) rfl ⟨.slice A7 n7 c7, rfl, ?_, ?_⟩
                · have k1 := ownsRow_setCell_below HR7.out (a := ⟨w3.heap.size, 0, none⟩) (by simp <;> omega) (.int .i64 z7)
                  have k2 := ownsRow_setCell_below k1 (a := ⟨w3.heap.size, 1, none⟩) (by simp <;> omega) (.slice A7 n7 c7)
                  have k3 := ownsRow_setCell_below k2 (a := ⟨w.heap.size + 1, 0, none⟩) (by simp <;> omega) (.int .i64 z7)
                  have k4 := ownsRow_setCell_below k3 (a := ⟨w.heap.size + 1, 1, none⟩) (by simp <;> omega) (.slice A7 n7 c7)
                  exact R_of_zrow (ZRow.low k4 (by omega))
                · repeat (first | exact HW7.out | refine Go.Proofs.Rcn.below_set ?_ (by first | (simp; done) | (simp; omega)) _)
        · have hq2 : ¬ (p : Int) = (p2 : Int) := by omega
          have hq3 : decide ((p : Int) = (p2 : Int)) = false := decide_eq_false hq2
          have hq4 : decide (p = p2) = false := decide_eq_false hxy
          have i1 : p2 * n1 + p < n3 := by rw [HL2.out]; exact idx_lt hp2 hp1
          have i2 : p * n1 + p2 < n3 := by rw [HL2.out]; exact idx_lt hp1 hp2
          have hasg : assignL n1 p p2 m C = ((forgetL n1 p C).set (p2 * n1 + p) ⟨true, m⟩).set (p * n1 + p2) ⟨true, wrap64 (-m)⟩ := by unfold assignL; rw [if_neg hxy, show wrap64 (-m) = -m by unfold wrap64; omega]
          go_wp2_with fail
          refine (zforget0_any g n3 c3 n1 p w9.heap.size z3 C _ HN.out h11 h15 HL2.out hp1 HS.out.row HlC.out).mono ?_
          rintro e w5 ⟨rfl, hr5, hbut5⟩
          have HD : Hid (MW w9 w3.heap.size g n3 c3 z3 (forgetL n1 p C) w5.drew) := ⟨Go.Proofs.Rcn.below_drew (hbut5.below HS.out.below HS.out.below.size hg1), (HS.out.out.but hbut5 hbo).drew, hr5, hr5.rcel.2⟩
          clear hr5 hbut5
          go_upto_region 24 with fail
          refine start_ (n := 17) (S := fun w' => w'.cell? ⟨w3.heap.size, 0, none⟩ = some (.int .i64 z3) ∧ w'.cell? ⟨w3.heap.size, 1, none⟩ = some (.slice (some ⟨g, 0, none⟩) n3 c3)) (ds := [14, 16]) #[false, false, false, false, false, false, false, false, false, false, false, false, false, false, false, false, false] (by kernel_rfl) rfl rfl ⟨HD.out.out.c0, HD.out.out.c1⟩ (fun hHeld => ?_)
          generalize w5.drew = wd at HD hHeld ⊢
          refine pure_ (i := 1) (N := some 98) (v := ?_) (a' := ?_) #[false, true, false, false, false, false, false, false, false, false, false, false, false, false, false, false, false] rfl rfl (by kernel_rfl) (fun _ _ _ h => h) (Or.inl ⟨by rfl, ?_⟩) ?_ ?_
          rotate_left
          · intro w'
            go_simp
            with_reducible rfl
          rotate_left
          · simp only [Act.put, List.setIfInBounds_toArray, List.set_cons_zero, List.set_cons_succ, i64_w, i32_w]
            rfl
          refine pure_ (i := 2) (N := some 99) (v := ?_) (a' := ?_) #[false, true, true, false, false, false, false, false, false, false, false, false, false, false, false, false, false] rfl rfl (by kernel_rfl) (fun _ _ _ h => h) (Or.inl ⟨by rfl, ?_⟩) ?_ ?_
          rotate_left
          · intro w'
            go_simp
            with_reducible rfl
          rotate_left
          · simp only [Act.put, List.setIfInBounds_toArray, List.set_cons_zero, List.set_cons_succ, i64_w, i32_w]
            rfl
          refine pure_ (i := 5) (N := some 102) (v := ?_) (a' := ?_) #[false, true, true, false, false, true, false, false, false, false, false, false, false, false, false, false, false] rfl rfl (by kernel_rfl) (fun _ _ _ h => h) (Or.inl ⟨by rfl, ?_⟩) ?_ ?_
          rotate_left
          · intro w'
            go_simp
            with_reducible rfl
          rotate_left
          · simp only [Act.put, List.setIfInBounds_toArray, List.set_cons_zero, List.set_cons_succ, i64_w, i32_w]
            rfl
          refine pure_ (i := 6) (N := some 103) (v := ?_) (a' := ?_) #[false, true, true, false, false, true, true, false, false, false, false, false, false, false, false, false, false] rfl rfl (by kernel_rfl) (fun _ _ _ h => h) (Or.inl ⟨by rfl, ?_⟩) ?_ ?_
          rotate_left
          · intro w'
            go_simp
            with_reducible rfl
          rotate_left
          · simp only [Act.put, List.setIfInBounds_toArray, List.set_cons_zero, List.set_cons_succ, i64_w, i32_w]
            rfl
          refine pure_ (i := 8) (N := some 105) (v := ?_) (a' := ?_) #[false, true, true, false, false, true, true, false, true, false, false, false, false, false, false, false, false] rfl rfl (by kernel_rfl) (fun _ _ _ h => h) (Or.inl ⟨by rfl, ?_⟩) ?_ ?_
          rotate_left
          · intro w'
            go_simp
            with_reducible rfl
          rotate_left
          · simp only [Act.put, List.setIfInBounds_toArray, List.set_cons_zero, List.set_cons_succ, i64_w, i32_w]
            rfl
          refine pure_ (i := 9) (N := some 106) (v := ?_) (a' := ?_) #[false, true, true, false, false, true, true, false, true, true, false, false, false, false, false, false, false] rfl rfl (by kernel_rfl) (fun _ _ _ h => h) (Or.inl ⟨by rfl, ?_⟩) ?_ ?_
          rotate_left
          · intro w'
            go_simp
            with_reducible rfl
          rotate_left
          · simp only [Act.put, List.setIfInBounds_toArray, List.set_cons_zero, List.set_cons_succ, i64_w, i32_w]
            rfl
          refine pure_ (i := 10) (N := some 107) (v := ?_) (a' := ?_) #[false, true, true, false, false, true, true, false, true, true, true, false, false, false, false, false, false] rfl rfl (by kernel_rfl) (fun _ _ _ h => h) (Or.inl ⟨by rfl, ?_⟩) ?_ ?_
          rotate_left
          · intro w'
            go_simp
            with_reducible rfl
          rotate_left
          · simp only [Act.put, List.setIfInBounds_toArray, List.set_cons_zero, List.set_cons_succ, i64_w, i32_w]
            rfl
          refine pure_ (i := 11) (N := some 108) (v := ?_) (a' := ?_) #[false, true, true, false, false, true, true, false, true, true, true, true, false, false, false, false, false] rfl rfl (by kernel_rfl) (fun _ _ _ h => h) (Or.inl ⟨by rfl, ?_⟩) ?_ ?_
          rotate_left
          · intro w'
            go_simp
            with_reducible rfl
          rotate_left
          · simp only [Act.put, List.setIfInBounds_toArray, List.set_cons_zero, List.set_cons_succ, i64_w, i32_w]
            rfl
          refine pure_ (i := 12) (N := some 109) (v := ?_) (a' := ?_) #[false, true, true, false, false, true, true, false, true, true, true, true, true, false, false, false, false] rfl rfl (by kernel_rfl) (fun _ _ _ h => h) (Or.inl ⟨by rfl, ?_⟩) ?_ ?_
          rotate_left
          · intro w'
            go_simp
            with_reducible rfl
          rotate_left
          · simp only [Act.put, List.setIfInBounds_toArray, List.set_cons_zero, List.set_cons_succ, i64_w, i32_w]
            rfl
          refine take_ (i := 0) (N := some 97) (v := ?_) (a' := ?_) #[true, true, true, false, false, true, true, false, true, true, true, true, true, false, false, false, false] rfl rfl (by kernel_rfl) (fun _ _ _ h => h) (Or.inl ⟨by rfl, ?_⟩) hHeld ?_ ?_
          rotate_left
          · rintro w' ⟨s0, s1⟩
            go_simp
            with_reducible rfl
          rotate_left
          · simp only [Act.put, List.setIfInBounds_toArray, List.set_cons_zero, List.set_cons_succ, i64_w, i32_w]
            rfl
          refine take_ (i := 4) (N := some 101) (v := ?_) (a' := ?_) #[true, true, true, false, true, true, true, false, true, true, true, true, true, false, false, false, false] rfl rfl (by kernel_rfl) (fun _ _ _ h => h) (Or.inl ⟨by rfl, ?_⟩) hHeld ?_ ?_
          rotate_left
          · rintro w' ⟨s0, s1⟩
            go_simp
            with_reducible rfl
          rotate_left
          · simp only [Act.put, List.setIfInBounds_toArray, List.set_cons_zero, List.set_cons_succ, i64_w, i32_w]
            rfl
          refine one_ (i := 3) (N := some 100) #[true, true, true, true, true, true, true, false, true, true, true, true, true, false, false, false, false] rfl rfl (by kernel_rfl) (by decide) (fun K hK => ?_)
          refine goes_ Tryd.func76 (by kernel_rfl) rfl #[.agg #[.int .i64 z3, .slice (some ⟨g, 0, none⟩) n3 c3], .int .i64 p2, .int .i64 p] (by rfl) rfl rfl (by simp only [List.map_toArray, List.map_cons, List.map_nil]; rfl) ?_
          with_reducible refine (at_easy n1 _ _ HN.out (by omega) HL2.out hp2 hp1).mono ?_
          rintro e wz ⟨rfl, o1, rfl⟩
          refine ⟨_, rfl, ?_⟩
          have HA := HD.out.alloc o1
          refine hK.out _ _ ⟨HA.out.c0, HA.out.c1⟩ (fun hHeld => ?_)
          clear hK K
          refine norm_ (a' := ?_) ?_ ?_
          rotate_left
          · show Act.put _ (some 100) _ = _
            simp only [Act.put, List.setIfInBounds_toArray, List.set_cons_zero, List.set_cons_succ, i64_w, i32_w]
            rfl
          refine one_ (i := 7) (N := some 104) #[true, true, true, true, true, true, true, true, true, true, true, true, true, false, false, false, false] rfl rfl (by kernel_rfl) (by decide) (fun K hK => ?_)
          refine goes_ Tryd.func76 (by kernel_rfl) rfl #[.agg #[.int .i64 z3, .slice (some ⟨g, 0, none⟩) n3 c3], .int .i64 p, .int .i64 p2] (by rfl) rfl rfl (by simp only [List.map_toArray, List.map_cons, List.map_nil]; rfl) ?_
          with_reducible refine (at_easy n1 _ _ HN.out (by omega) HL2.out hp1 hp2).mono ?_
          rintro e wz ⟨rfl, o2, rfl⟩
          refine ⟨_, rfl, ?_⟩
          have HB := HA.alloc o2
          have c0 := HB.row.at0 HB.ln i1
          have c1 := HB.row.at1 HB.ln i1
          have f0 := HB.row.free HB.ln ((p2 * n1 + p) * 2)
          have f1 := HB.row.free HB.ln ((p2 * n1 + p) * 2 + 1)
          refine hK.out _ _ ⟨HB.out.c0, HB.out.c1⟩ (fun hHeld => ?_)
          clear hK K
          refine norm_ (a' := ?_) ?_ ?_
          rotate_left
          · show Act.put _ (some 104) _ = _
            simp only [Act.put, List.setIfInBounds_toArray, List.set_cons_zero, List.set_cons_succ, i64_w, i32_w]
            rfl
          refine pure_ (i := 13) (N := some 110) (v := ?_) (a' := ?_) #[true, true, true, true, true, true, true, true, true, true, true, true, true, true, false, false, false] rfl rfl (by kernel_rfl) (fun _ _ _ h => h) (Or.inl ⟨by rfl, ?_⟩) ?_ ?_
          rotate_left
          · intro w'
            go_simp
            with_reducible rfl
          rotate_left
          · simp only [Act.put, List.setIfInBounds_toArray, List.set_cons_zero, List.set_cons_succ, i64_w, i32_w]
            rfl
          refine last_ (i := 14) (N := none) #[true, true, true, true, true, true, true, true, true, true, true, true, true, true, true, false, false] rfl rfl (by kernel_rfl) (by decide) (fun K hK => ?_)
          refine skip_ (w1 := ?_) (by rfl) rfl ?_ ?_
          rotate_left
          · go_simp
            rfl
          have HC := HB.put hg1 hbo (p2 * n1 + p) true m
          clear c0 c1 f0 f1
          have c0 := HC.row.at0 HC.ln i2
          have c1 := HC.row.at1 HC.ln i2
          have f0 := HC.row.free HC.ln ((p * n1 + p2) * 2)
          have f1 := HC.row.free HC.ln ((p * n1 + p2) * 2 + 1)
          refine hK.out _ _ ?_
          clear hK K
          refine pure_ (i := 15) (N := some 111) (v := ?_) (a' := ?_) #[true, true, true, true, true, true, true, true, true, true, true, true, true, true, true, true, false] rfl rfl (by kernel_rfl) (fun _ _ _ h => h) (Or.inl ⟨by rfl, ?_⟩) ?_ ?_
          rotate_left
          · intro w'
            go_simp
            with_reducible rfl
          rotate_left
          · simp only [Act.put, List.setIfInBounds_toArray, List.set_cons_zero, List.set_cons_succ, i64_w, i32_w]
            rfl
          refine last_ (i := 16) (N := none) #[true, true, true, true, true, true, true, true, true, true, true, true, true, true, true, true, true] rfl rfl (by kernel_rfl) (by decide) (fun K hK => ?_)
          refine skip_ (w1 := ?_) (by rfl) rfl ?_ ?_
          rotate_left
          · go_simp
            rfl
          have HE := Lib.hid (HC.put hg1 hbo (p * n1 + p2) true (wrap64 (-m)))
          clear c0 c1 f0 f1
          refine hK.out _ _ ?_
          clear hK K
          refine done_ (by kernel_rfl) ?_

          rw [← hasg] at HE
          generalize (((((wd.alloc o1).alloc o2).setCell ⟨g, (p2 * n1 + p) * 2, none⟩ (.bool true)).setCell ⟨g, (p2 * n1 + p) * 2 + 1, none⟩ (.int .i64 m)).setCell ⟨g, (p * n1 + p2) * 2, none⟩ (.bool true)).setCell ⟨g, (p * n1 + p2) * 2 + 1, none⟩ (.int .i64 (wrap64 (-m))) = W6 at HE ⊢
          have HB6 := Lib.hid (below_then HWy.out HE.out.below)
          have U1 := Lib.hid (Y1.out.below HE.out.below)
          obtain ⟨bl, b0, b1, bf0, bf1⟩ := HE.out.out
          go_wp2_with fail
          refine (zclose_any (some ⟨g, 0, none⟩) n1 n3 c3 z3 _ _ HN.out h11 h15 HL2.out HE.out.row.rcel.1 rfl).mono ?_
          rintro e w7 ⟨z7, A7, n7, c7, ok7, rfl, hp7, hb7⟩
          have HW7 := Lib.hid (below_then HB6.out hb7)
          have V1 := Lib.hid (U1.out.below hb7)
          have V2 := Lib.hid (HE.out.out.below hb7)
          have hw6 := HB6.out.size
          have hwy2 := HE.out.below.size
          have hu1 := U1.out.lt
          have hu2 := HE.out.out.lt
          clear hb7 bl b0 b1 bf0 bf1
          generalize closeZ n1 (assignL n1 p p2 m C) = D at hp7 HR2
          obtain ⟨rl, r0, r1, rf0, rf1⟩ := V1.out
          obtain ⟨bl, b0, b1, bf0, bf1⟩ := V2.out
          cases D with
          | none =>
            obtain ⟨rfl, rfl, rfl, rfl, rfl⟩ := hp7
            obtain rfl : R = (0, [], false, none) := HR2.out
            go_wp2
            refine bodyPost_ret (v := .tuple #[.agg #[.int .i64 0, .slice none 0 0], .bool false, errW none]) (by simp [results, Tryd.results60, go_sem, rl, r0, r1, rf0, rf1, bl, b0, b1, errW_none]) rfl (ZRet.no ?_)
            repeat (first | exact HW7.out | refine Go.Proofs.Rcn.below_alloc ?_ _ | refine Go.Proofs.Rcn.below_set ?_ (by first | (simp; done) | (simp; omega)) _ | refine Go.Proofs.Rcn.below_drew ?_)
          | some D =>
            obtain ⟨rfl, rfl, rfl, hr7⟩ := hp7
            obtain rfl : R = (z7, zces D, true, none) := HR2.out
            have HR7 := Lib.hid hr7
            clear hr7
            go_wp2
            refine bodyPost_ret (v := .tuple #[.agg #[.int .i64 z7, .slice A7 n7 c7], .bool true, errW none]) (by simp [results, Tryd.results60, go_sem, rl, r0, r1, rf0, rf1, bl, b0, b1, errW_none]) rfl ⟨.slice A7 n7 c7, rfl, ?_, ?_⟩
            · have k1 := ownsRow_setCell_below HR7.out (a := ⟨w3.heap.size, 0, none⟩) (by simp <;> omega) (.int .i64 z7)
              have k2 := ownsRow_setCell_below k1 (a := ⟨w3.heap.size, 1, none⟩) (by simp <;> omega) (.slice A7 n7 c7)
              have k3 := ownsRow_setCell_below k2 (a := ⟨w.heap.size + 1, 0, none⟩) (by simp <;> omega) (.int .i64 z7)
              have k4 := ownsRow_setCell_below k3 (a := ⟨w.heap.size + 1, 1, none⟩) (by simp <;> omega) (.slice A7 n7 c7)
              exact R_of_zrow (ZRow.low k4 (by omega))
            · repeat (first | exact HW7.out | refine Go.Proofs.Rcn.below_set ?_ (by first | (simp; done) | (simp; omega)) _)
theorem zone_Assign.calls [EA] (a0_0 : Int) (A0_1 : Option Addr) (c0_1 : Nat) (l0_1 : List ZC) (a1 : Int) (a2 : Int) (a3 : Int) (r1 : Int) (r2 : List ZC) (r3 : Bool) (r4 : Option Int) (w : World) (hr0_1 : Kd.C k42 w A0_1 l0_1.length l0_1) (hc0_1 : l0_1.length ≤ c0_1) (h : zone_Assign.f a0_0 l0_1 a1 a2 a3 = some (r1, r2, r3, r4)) (h2_ : ErrAt 2 1 w) (h3_ : ErrAt 3 0 w) :
    Calls Tryd.prog 60 #[.agg #[.int .i64 a0_0, .slice A0_1 l0_1.length c0_1], .int .i64 a1, .int .i64 a2, .int .i64 a3] w fun e w' => ∃ v1_ : Value, e = .returned (.tuple #[.agg #[.int .i64 r1, v1_], .bool r3, errW r4]) ∧ Kd.R k42 42 w' w.heap.size (fun _ => True) v1_ r2 ∧ Below w.heap.size w w' := by
  have e : assignR a0_0 (cels l0_1) a1 a2 a3 = (r1, r2, r3, r4) := by
    unfold zone_Assign.f at h
    unfold assignR
    cases hE : zErr a0_0 (cels l0_1) with
    | some er => rw [hE] at h; exact Option.some.inj h
    | none =>
      rw [hE] at h
      simp only at h ⊢
      by_cases c1 : a1 < 1 ∨ a1 > a0_0 ∨ a2 < 0 ∨ a2 > a0_0
      · rw [if_pos c1] at h ⊢; exact Option.some.inj h
      · rw [if_neg c1] at h ⊢
        by_cases c2 : zfar a3 = true
        · rw [if_pos c2] at h ⊢; exact Option.some.inj h
        · rw [if_neg c2] at h ⊢
          cases hC : closeZ (a0_0 + 1).toNat (cels l0_1) <;> (rw [hC] at h; exact Option.some.inj h)
  have q := zassign_any A0_1 l0_1.length c0_1 a0_0 a1 a2 a3 (cels l0_1) w (rcel_of_C hr0_1) h2_ h3_
  rw [e] at q
  exact q
end Go.Proofs.Rcg
