import Derived.Test.YtcalcnfppnbooaaDoorZwZm
import Derived.Test.YtcalcnfppnbooaaDoorZwZn
import Derived.BigRegion
/- Package zone: the bounds of a variable. -/
set_option linter.unusedVariables false
set_option linter.unusedSimpArgs false
namespace Go.Proofs.Rcg
open Go Go.RowKit Go.Proofs.Rcn Go.Proofs.YtcalcnfppnbooaaDoor.Z Go.Proofs.YtcalcnfppnbooaaDoorW.PrintWords Go.Proofs.YtcalcnfppnbooaaDoorW.PrintLast

structure Cell4 (W : World) (b : Nat) (u0 u1 u2 u3 : Value) : Prop where
  lt : b < W.heap.size
  c0 : W.cell? ⟨b, 0, none⟩ = some u0
  c1 : W.cell? ⟨b, 1, none⟩ = some u1
  c2 : W.cell? ⟨b, 2, none⟩ = some u2
  c3 : W.cell? ⟨b, 3, none⟩ = some u3
  f0 : W.frozen? ⟨b, 0, none⟩ = false
  f1 : W.frozen? ⟨b, 1, none⟩ = false
  f2 : W.frozen? ⟨b, 2, none⟩ = false
  f3 : W.frozen? ⟨b, 3, none⟩ = false
section
variable {W w1 : World} {b : Nat} {u0 u1 u2 u3 : Value}
theorem Cell4.below (h : Cell4 W b u0 u1 u2 u3) (hb : Below W.heap.size W w1) : Cell4 w1 b u0 u1 u2 u3 :=
  ⟨Nat.lt_of_lt_of_le h.lt hb.size, cell_below hb h.c0, cell_below hb h.c1, cell_below hb h.c2, cell_below hb h.c3, (hb.frozen h.lt).trans h.f0, (hb.frozen h.lt).trans h.f1, (hb.frozen h.lt).trans h.f2, (hb.frozen h.lt).trans h.f3⟩
theorem Cell4.new (W : World) (u0 u1 u2 u3 : Value) (t : TypeId) : Cell4 (W.alloc (.cells #[u0, u1, u2, u3] t)) W.heap.size u0 u1 u2 u3 :=
  ⟨by simp, by simp [go_sem], by simp [go_sem], by simp [go_sem], by simp [go_sem], by simp [go_sem], by simp [go_sem], by simp [go_sem], by simp [go_sem]⟩
theorem Cell4.alloc (h : Cell4 W b u0 u1 u2 u3) (o : Obj) : Cell4 (W.alloc o) b u0 u1 u2 u3 := h.below (Go.Proofs.Rcn.below_alloc (Below.refl _ _) o)
end
def BRet [EA] (R : (Bool × Bool × Int × Int) × Bool × Option Int) (w : World) (e : Ending) (w' : World) : Prop :=
  e = .returned (.tuple #[.agg #[.bool R.1.1, .bool R.1.2.1, .int .i64 R.1.2.2.1, .int .i64 R.1.2.2.2], .bool R.2.1, errW R.2.2]) ∧ Below w.heap.size w w'
def boundsR (N : Int) (L : List Cel) (x : Int) : (Bool × Bool × Int × Int) × Bool × Option Int :=
  match zErr N L with
  | some e => ((false, false, 0, 0), false, some e)
  | none => if x < 1 ∨ x > N then ((false, false, 0, 0), false, some 3) else
    match closeZ (N + 1).toNat L with
    | none => ((false, false, 0, 0), false, none)
    | some C => ((!(cg C (x.toNat * (N + 1).toNat)).has, !(cg C x.toNat).has, wrap64 (-(cg C (x.toNat * (N + 1).toNat)).most), (cg C x.toNat).most), true, none)
set_option maxRecDepth 100000 in
set_option maxHeartbeats 4000000 in
theorem zbounds_any [EA] (A : Option Addr) (n c : Nat) (N x : Int) (L : List Cel) (w : World) (hz : RCel w A n L) (h2 : ErrAt 2 1 w) (h3 : ErrAt 3 0 w) :
    Calls Tryd.prog 38 #[.agg #[.int .i64 N, .slice A n c], .int .i64 x] w (BRet (boundsR N L x) w) := by
  have HL := Lib.hid hz.1
  have HZ := Lib.hid hz
  have HE3 := Lib.hid h3
  have hv := fun W (h : Below w.heap.size w W) => zvalid_any A n c N L W (hz.below h) (h2.below h) (h3.below h)
  obtain ⟨R, hR⟩ : ∃ R, R = boundsR N L x := ⟨_, rfl⟩
  rw [← hR]
  have l3 := h3.lt
  clear hz h2 h3
  have H0 : Hid (Cell2 ((w.alloc (.cells #[.int .i64 N, .slice A n c] 30)).alloc (.cells #[.bool false, .bool false, .int .i64 0, .int .i64 0] 49)) w.heap.size (.int .i64 N) (.slice A n c)) := (Cell2.new w _ _ _).alloc _
  have H1 : Hid (Cell4 ((w.alloc (.cells #[.int .i64 N, .slice A n c] 30)).alloc (.cells #[.bool false, .bool false, .int .i64 0, .int .i64 0] 49)) (w.heap.size + 1) (.bool false) (.bool false) (.int .i64 0) (.int .i64 0)) := by
    have := Cell4.new (w.alloc (.cells #[.int .i64 N, .slice A n c] 30)) (.bool false) (.bool false) (.int .i64 0) (.int .i64 0) 49
    show Cell4 _ _ _ _ _ _
    simpa using this
  have HW : Hid (Below w.heap.size w ((w.alloc (.cells #[.int .i64 N, .slice A n c] 30)).alloc (.cells #[.bool false, .bool false, .int .i64 0, .int .i64 0] 49))) := Go.Proofs.Rcn.below_alloc (Go.Proofs.Rcn.below_alloc (Below.refl _ _) _) _
  cases hE : zErr N L with
  | some er =>
    obtain rfl : R = ((false, false, 0, 0), false, some er) := by rw [hR]; unfold boundsR; rw [hE]
    rw [hE] at hv
    have HV := Lib.hid hv
    clear hE hR hv
    go_enter Tryd.func38, Tryd.ntmps38
    go_wp2_with fail
    refine (HV.out _ HW.out).mono ?_
    rintro e w1 ⟨rfl, hb1⟩
    have HW1 := Lib.hid (below_then HW.out hb1)
    obtain ⟨rl, r0, r1, r2, r3, rf0, rf1, rf2, rf3⟩ := H1.out.below hb1
    clear hb1
    simp only [errW_some]
    go_wp2
    refine bodyPost_ret (v := .tuple #[.agg #[.bool false, .bool false, .int .i64 0, .int .i64 0], .bool false, errW (some er)]) (by simp [results, Tryd.results38, go_sem, rl, r0, r1, r2, r3, rf0, rf1, rf2, rf3, errW_some]) rfl ⟨rfl, ?_⟩
    repeat (first | exact HW1.out | refine Go.Proofs.Rcn.below_set ?_ (by simp) _)
  | none =>
    obtain ⟨n1, hn1, h11, h15, hlen, hbad, hfar⟩ := zErr_none hE
    clear hbad hfar
    rw [hE] at hv
    have HV := Lib.hid hv
    have HN := Lib.hid hn1
    have HLen := Lib.hid hlen
    clear hv hn1 hlen
    by_cases hin : x < 1 ∨ x > N
    · obtain rfl : R = ((false, false, 0, 0), false, some 3) := by rw [hR]; unfold boundsR; rw [hE]; simp only [if_pos hin]
      have hany : ([x].any fun y => decide (y < 1 ∨ y > N)) = true := by
        simp only [List.any_cons, List.any_nil, Bool.or_false, decide_eq_true_eq]
        exact hin
      have hvar := fun W A2 (h : RInts W A2 1 [x]) => zvar_any A n c N 1 A2 1 1 [x] W h (by omega)
      rw [hany] at hvar
      have HVar := Lib.hid hvar
      clear hE hR hin hany hvar
      go_enter Tryd.func38, Tryd.ntmps38
      go_wp2_with fail
      refine (HV.out _ HW.out).mono ?_
      rintro e w1 ⟨rfl, hb1⟩
      have HW1 := Lib.hid (below_then HW.out hb1)
      have K0 := Lib.hid (H0.out.below hb1)
      have K1 := Lib.hid (H1.out.below hb1)
      obtain ⟨bl, b0, b1, bf0, bf1⟩ := K0.out
      clear hb1
      simp only [errW_none]
      go_wp2_with fail
      refine (HVar.out _ _ ⟨rfl, fun _ => ⟨_, 0, rfl, fun k hk => ?_⟩⟩).mono ?_
      · obtain rfl : k = 0 := by omega
        simp [go_sem]
      rintro e w2 ⟨rfl, hb2⟩
      have HW2 := Lib.hid (below_then (Go.Proofs.Rcn.below_alloc HW1.out _) hb2)
      obtain ⟨rl, r0, r1, r2, r3, rf0, rf1, rf2, rf3⟩ := (K1.out.alloc _).below hb2
      have e3 := (HE3.out.below HW2.out).cell
      have e3l := (HE3.out.below HW2.out).lt
      clear hb2 bl b0 b1 bf0 bf1
      go_wp2_with fail
      go_region
      all_goals (try go_wp2)
      all_goals
        refine bodyPost_ret (v := .tuple #[.agg #[.bool false, .bool false, .int .i64 0, .int .i64 0], .bool false, errW (some 3)]) (by simp [results, Tryd.results38, go_sem, rl, r0, r1, r2, r3, rf0, rf1, rf2, rf3, errW_some]) rfl ⟨rfl, ?_⟩
        repeat (first | exact HW2.out | refine Go.Proofs.Rcn.below_set ?_ (by simp) _ | refine Go.Proofs.Rcn.below_drew ?_)
    · have hany : ([x].any fun y => decide (y < 1 ∨ y > N)) = false := by
        simp only [List.any_cons, List.any_nil, Bool.or_false, decide_eq_false_iff_not]
        exact hin
      have hvar := fun W A2 (h : RInts W A2 1 [x]) => zvar_any A n c N 1 A2 1 1 [x] W h (by omega)
      rw [hany] at hvar
      have HVar := Lib.hid hvar
      clear hany hvar
      obtain ⟨p, hp⟩ : ∃ p : Nat, x = p := ⟨x.toNat, by omega⟩
      subst hp
      have hp1 : p < n1 := by have := HN.out; omega
      have hL2 : n = n1 * n1 := by rw [← HL.out]; exact HLen.out
      have en : (N + 1).toNat = n1 := by have := HN.out; omega
      have hR' : R = (match closeZ n1 L with
        | none => ((false, false, 0, 0), false, none)
        | some C => ((!(cg C (p * n1)).has, !(cg C p).has, wrap64 (-(cg C (p * n1)).most), (cg C p).most), true, none)) := by
        rw [hR]; unfold boundsR; rw [hE]; simp only [if_neg hin, en]; rfl
      obtain ⟨CL, hCL⟩ : ∃ C, closeZ n1 L = C := ⟨_, rfl⟩
      rw [hCL] at hR'
      have HR := Lib.hid hR'
      have HCL := Lib.hid hCL
      have hlen1 : 1 ≤ n ∧ n ≤ 25 := by rw [hL2]; exact ⟨Nat.mul_le_mul h11 h11, Nat.mul_le_mul h15 h15⟩
      have HL2 := Lib.hid hL2
      clear hE hR hin hR' hCL hL2 en
      go_enter Tryd.func38, Tryd.ntmps38
      go_wp2_with fail
      refine (HV.out _ HW.out).mono ?_
      rintro e w1 ⟨rfl, hb1⟩
      have HW1 := Lib.hid (below_then HW.out hb1)
      have K0 := Lib.hid (H0.out.below hb1)
      have K1 := Lib.hid (H1.out.below hb1)
      obtain ⟨bl, b0, b1, bf0, bf1⟩ := K0.out
      clear hb1
      simp only [errW_none]
      go_wp2_with fail
      refine (HVar.out _ _ ⟨rfl, fun _ => ⟨_, 0, rfl, fun k hk => ?_⟩⟩).mono ?_
      · obtain rfl : k = 0 := by omega
        simp [go_sem]
      rintro e w2 ⟨rfl, hb2⟩
      have HW2 := Lib.hid (below_then (Go.Proofs.Rcn.below_alloc HW1.out _) hb2)
      have M0 := Lib.hid ((K0.out.alloc _).below hb2)
      have M1 := Lib.hid ((K1.out.alloc _).below hb2)
      clear hb2 bl b0 b1 bf0 bf1
      obtain ⟨bl, b0, b1, bf0, bf1⟩ := M0.out
      go_wp2_with fail
      refine (zclose_any A n1 n c N L _ HN.out h11 h15 HL2.out (HZ.out.below HW2.out) HCL.out).mono ?_
      rintro e w3 ⟨z3, A3, n3, c3, ok3, rfl, hp3, hb3⟩
      have HW3 := Lib.hid (below_then HW2.out hb3)
      have P1 := Lib.hid (M1.out.below hb3)
      have HB3 := Lib.hid hb3
      have hw2 := HW2.out.size
      have hp1l := M1.out.lt
      have hp3l := P1.out.lt
      clear hb3 bl b0 b1 bf0 bf1
      cases CL with
      | none =>
        obtain ⟨rfl, rfl, rfl, rfl, rfl⟩ := hp3
        obtain rfl : R = ((false, false, 0, 0), false, none) := HR.out
        obtain ⟨rl, r0, r1, r2, r3, rf0, rf1, rf2, rf3⟩ := P1.out
        go_wp2
        refine bodyPost_ret (v := .tuple #[.agg #[.bool false, .bool false, .int .i64 0, .int .i64 0], .bool false, errW none]) (by simp [results, Tryd.results38, go_sem, rl, r0, r1, r2, r3, rf0, rf1, rf2, rf3, errW_none]) rfl ⟨rfl, ?_⟩
        repeat (first | exact HW3.out | refine Go.Proofs.Rcn.below_alloc ?_ _ | refine Go.Proofs.Rcn.below_set ?_ (by first | (simp; done) | (simp; omega)) _ | refine Go.Proofs.Rcn.below_drew ?_)
      | some C =>
        obtain ⟨rfl, rfl, rfl, hr3⟩ := hp3
        obtain rfl : R = ((!(cg C (p * n1)).has, !(cg C p).has, wrap64 (-(cg C (p * n1)).most), (cg C p).most), true, none) := HR.out
        have hlenC := hr3.rcel.1.1
        obtain ⟨g, cap, hv3, hg1, hg2⟩ := hr3.form (by rw [hlenC]; omega)
        simp only [Value.slice.injEq] at hv3
        obtain ⟨rfl, -, rfl⟩ := hv3
        obtain ⟨w4, hw4⟩ : ∃ w4, w4 = w3.alloc (.cells #[.int .i64 z3, .slice (some ⟨g, 0, none⟩) n3 c3] 30) := ⟨_, rfl⟩
        have HD : Hid (MW w2 w3.heap.size g n3 c3 z3 C w4.drew) := by
          show MW _ _ _ _ _ _ _ _
          rw [hw4]
          exact MW.drew ⟨Go.Proofs.Rcn.below_alloc HB3.out _, Cell2.new w3 _ _ _, hr3.alloc _, hlenC.symm⟩
        clear hr3
        have hpos : 0 < n1 := by omega
        have i1 : p < n3 := by rw [HL2.out]; exact Nat.lt_of_lt_of_le hp1 (Nat.le_mul_of_pos_left n1 hpos)
        have i2 : p * n1 < n3 := by rw [HL2.out]; exact Nat.mul_lt_mul_of_pos_right hp1 hpos
        have hat1 : Hid (∀ W, Calls Tryd.prog 85 #[.agg #[.int .i64 z3, .slice (some ⟨g, 0, none⟩) n3 c3], .int .i64 0, .int .i64 p] W fun e w' => e = .returned (.pointer (some ⟨g, p * 2, none⟩)) ∧ ∃ o, w' = W.alloc o) := by
          intro W
          have := at_easy (N := z3) (g := g) (len := n3) (c := c3) (W := W) n1 0 p HN.out (by omega) HL2.out hpos hp1
          simpa using this
        have hat2 : Hid (∀ W, Calls Tryd.prog 85 #[.agg #[.int .i64 z3, .slice (some ⟨g, 0, none⟩) n3 c3], .int .i64 p, .int .i64 0] W fun e w' => e = .returned (.pointer (some ⟨g, p * n1 * 2, none⟩)) ∧ ∃ o, w' = W.alloc o) := by
          intro W
          have := at_easy (N := z3) (g := g) (len := n3) (c := c3) (W := W) n1 p 0 HN.out (by omega) HL2.out hp1 hpos
          simpa using this
        go_upto_region 9 with fail
        rw [← hw4]
        clear hw4
        refine start_ (n := 8) (S := fun w' => w'.cell? ⟨w3.heap.size, 0, none⟩ = some (.int .i64 z3) ∧ w'.cell? ⟨w3.heap.size, 1, none⟩ = some (.slice (some ⟨g, 0, none⟩) n3 c3)) (ds := []) #[false, false, false, false, false, false, false, false] (by kernel_rfl) rfl rfl ⟨HD.out.out.c0, HD.out.out.c1⟩ (fun hHeld => ?_)
        generalize w4.drew = wd at HD hHeld ⊢
        refine pure_ (i := 1) (N := some 34) (v := ?_) (a' := ?_) #[false, true, false, false, false, false, false, false] rfl rfl (by kernel_rfl) (fun _ _ _ h => h) (Or.inl ⟨by rfl, ?_⟩) ?_ ?_
        rotate_left
        · intro w'
          go_simp
          with_reducible rfl
        rotate_left
        · simp only [Act.put, List.setIfInBounds_toArray, List.set_cons_zero, List.set_cons_succ, i64_w, i32_w]
          rfl
        refine pure_ (i := 4) (N := some 37) (v := ?_) (a' := ?_) #[false, true, false, false, true, false, false, false] rfl rfl (by kernel_rfl) (fun _ _ _ h => h) (Or.inl ⟨by rfl, ?_⟩) ?_ ?_
        rotate_left
        · intro w'
          go_simp
          with_reducible rfl
        rotate_left
        · simp only [Act.put, List.setIfInBounds_toArray, List.set_cons_zero, List.set_cons_succ, i64_w, i32_w]
          rfl
        refine take_ (i := 0) (N := some 33) (v := ?_) (a' := ?_) #[true, true, false, false, true, false, false, false] rfl rfl (by kernel_rfl) (fun _ _ _ h => h) (Or.inl ⟨by rfl, ?_⟩) hHeld ?_ ?_
        rotate_left
        · rintro w' ⟨s0, s1⟩
          go_simp
          with_reducible rfl
        rotate_left
        · simp only [Act.put, List.setIfInBounds_toArray, List.set_cons_zero, List.set_cons_succ, i64_w, i32_w]
          rfl
        refine take_ (i := 3) (N := some 36) (v := ?_) (a' := ?_) #[true, true, false, true, true, false, false, false] rfl rfl (by kernel_rfl) (fun _ _ _ h => h) (Or.inl ⟨by rfl, ?_⟩) hHeld ?_ ?_
        rotate_left
        · rintro w' ⟨s0, s1⟩
          go_simp
          with_reducible rfl
        rotate_left
        · simp only [Act.put, List.setIfInBounds_toArray, List.set_cons_zero, List.set_cons_succ, i64_w, i32_w]
          rfl
        refine one_ (i := 2) (N := some 35) #[true, true, true, true, true, false, false, false] rfl rfl (by kernel_rfl) (by decide) (fun K hK => ?_)
        refine goes_ Tryd.func85 (by kernel_rfl) rfl #[.agg #[.int .i64 z3, .slice (some ⟨g, 0, none⟩) n3 c3], .int .i64 0, .int .i64 p] (by rfl) rfl rfl (by simp only [List.map_toArray, List.map_cons, List.map_nil]; rfl) ?_
        with_reducible refine (hat1.out _).mono ?_
        rintro e wz ⟨rfl, o1, rfl⟩
        refine ⟨_, rfl, ?_⟩
        have HA := HD.out.alloc o1
        refine hK.out _ _ ⟨HA.out.c0, HA.out.c1⟩ (fun hHeld => ?_)
        clear hK K
        refine norm_ (a' := ?_) ?_ ?_
        rotate_left
        · show Act.put _ (some 35) _ = _
          simp only [Act.put, List.setIfInBounds_toArray, List.set_cons_zero, List.set_cons_succ, i64_w, i32_w]
          rfl
        refine one_ (i := 5) (N := some 38) #[true, true, true, true, true, true, false, false] rfl rfl (by kernel_rfl) (by decide) (fun K hK => ?_)
        refine goes_ Tryd.func85 (by kernel_rfl) rfl #[.agg #[.int .i64 z3, .slice (some ⟨g, 0, none⟩) n3 c3], .int .i64 p, .int .i64 0] (by rfl) rfl rfl (by simp only [List.map_toArray, List.map_cons, List.map_nil]; rfl) ?_
        with_reducible refine (hat2.out _).mono ?_
        rintro e wz ⟨rfl, o2, rfl⟩
        refine ⟨_, rfl, ?_⟩
        have HB := HA.alloc o2
        refine hK.out _ _ ⟨HB.out.c0, HB.out.c1⟩ (fun hHeld => ?_)
        clear hK K
        refine norm_ (a' := ?_) ?_ ?_
        rotate_left
        · show Act.put _ (some 38) _ = _
          simp only [Act.put, List.setIfInBounds_toArray, List.set_cons_zero, List.set_cons_succ, i64_w, i32_w]
          rfl
        refine pure_ (i := 6) (N := some 10) (v := ?_) (a' := ?_) #[true, true, true, true, true, true, true, false] rfl rfl (by kernel_rfl) (fun _ _ _ h => h) (Or.inl ⟨by rfl, ?_⟩) ?_ ?_
        rotate_left
        · intro w'
          go_simp
          with_reducible rfl
        rotate_left
        · simp only [Act.put, List.setIfInBounds_toArray, List.set_cons_zero, List.set_cons_succ, i64_w, i32_w]
          rfl
        refine pure_ (i := 7) (N := some 11) (v := ?_) (a' := ?_) #[true, true, true, true, true, true, true, true] rfl rfl (by kernel_rfl) (fun _ _ _ h => h) (Or.inl ⟨by rfl, ?_⟩) ?_ ?_
        rotate_left
        · intro w'
          go_simp
          with_reducible rfl
        rotate_left
        · simp only [Act.put, List.setIfInBounds_toArray, List.set_cons_zero, List.set_cons_succ, i64_w, i32_w]
          rfl
        refine done_ (by kernel_rfl) ?_

        have HBB := Lib.hid HB
        have c0 := HB.row.at0 HB.ln i1
        have c1 := HB.row.at1 HB.ln i1
        have d0 := HB.row.at0 HB.ln i2
        have d1 := HB.row.at1 HB.ln i2
        have HW5 := Lib.hid (below_then HW2.out HB.below)
        obtain ⟨rl, r0, r1, r2, r3, rf0, rf1, rf2, rf3⟩ := M1.out.below HB.below
        clear HA HB
        generalize (wd.alloc o1).alloc o2 = w5 at *
        generalize cg C p = up at *
        generalize cg C (p * n1) = dn at *
        obtain ⟨uh, um⟩ := up
        obtain ⟨dh, dm⟩ := dn
        simp only at c0 c1 d0 d1
        go_wp2_with fail
        go_region
        all_goals (try go_wp2)
        all_goals
          refine bodyPost_ret (v := .tuple #[.agg #[.bool (!dh), .bool (!uh), .int .i64 (wrap64 (-dm)), .int .i64 um], .bool true, errW none]) (by simp [results, Tryd.results38, go_sem, rl, r0, r1, r2, r3, rf0, rf1, rf2, rf3, errW_none]) rfl ⟨rfl, ?_⟩
          repeat (first | exact HW5.out | refine Go.Proofs.Rcn.below_set ?_ (by first | (simp; done) | (simp; omega)) _ | refine Go.Proofs.Rcn.below_drew ?_)
theorem zone_Bounds.calls [EA] (a0_0 : Int) (A0_1 : Option Addr) (c0_1 : Nat) (l0_1 : List ZC) (a1 : Int) (r1 : Bool) (r2 : Bool) (r3 : Int) (r4 : Int) (r5 : Bool) (r6 : Option Int) (w : World) (hr0_1 : Kd.C k120 w A0_1 l0_1.length l0_1) (hc0_1 : l0_1.length ≤ c0_1) (h : zone_Bounds.f a0_0 l0_1 a1 = some (r1, r2, r3, r4, r5, r6)) (h2_ : ErrAt 2 1 w) (h3_ : ErrAt 3 0 w) :
    Calls Tryd.prog 38 #[.agg #[.int .i64 a0_0, .slice A0_1 l0_1.length c0_1], .int .i64 a1] w fun e w' => e = .returned (.tuple #[.agg #[.bool r1, .bool r2, .int .i64 r3, .int .i64 r4], .bool r5, errW r6]) ∧ Below w.heap.size w w' := by
  have e : boundsR a0_0 (cels l0_1) a1 = ((r1, r2, r3, r4), r5, r6) := by
    unfold zone_Bounds.f at h
    unfold boundsR
    cases hE : zErr a0_0 (cels l0_1) with
    | some er =>
      rw [hE] at h
      simp only [Option.some.injEq, Prod.mk.injEq] at h ⊢
      obtain ⟨rfl, rfl, rfl, rfl, rfl, rfl⟩ := h
      exact ⟨⟨rfl, rfl, rfl, rfl⟩, rfl, rfl⟩
    | none =>
      rw [hE] at h
      simp only at h ⊢
      by_cases c1 : a1 < 1 ∨ a1 > a0_0
      · rw [if_pos c1] at h ⊢
        simp only [Option.some.injEq, Prod.mk.injEq] at h ⊢
        obtain ⟨rfl, rfl, rfl, rfl, rfl, rfl⟩ := h
        exact ⟨⟨rfl, rfl, rfl, rfl⟩, rfl, rfl⟩
      · rw [if_neg c1] at h ⊢
        cases hC : closeZ (a0_0 + 1).toNat (cels l0_1) <;>
        · rw [hC] at h
          simp only [Option.some.injEq, Prod.mk.injEq] at h ⊢
          obtain ⟨rfl, rfl, rfl, rfl, rfl, rfl⟩ := h
          exact ⟨⟨rfl, rfl, rfl, rfl⟩, rfl, rfl⟩
  have q := zbounds_any A0_1 l0_1.length c0_1 a0_0 a1 (cels l0_1) w (rcel_of_C hr0_1) h2_ h3_
  rw [e] at q
  exact q
end Go.Proofs.Rcg
