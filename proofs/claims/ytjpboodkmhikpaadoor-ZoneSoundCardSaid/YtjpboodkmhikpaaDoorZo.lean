/- Package zone: a variable forgotten, in the row. -/
import Derived.Test.YtjpboodkmhikpaaDoorZn
set_option linter.unusedVariables false
set_option linter.unusedSimpArgs false
namespace Go.Proofs.Rcg
open Go Go.RowKit Go.Proofs.Rcn Go.Proofs.YtjpboodkmhikpaaDoor.Z Go.Proofs.YtjpboodkmhikpaaDoorW.PrintWords Go.Proofs.YtjpboodkmhikpaaDoorW.PrintLast

/-- A row that is written; the zone's box. -/
structure FW (w : World) (base g n c : Nat) (N : Int) (X : List Cel) (wr : World) : Prop where
  but : But g w wr
  zv : Cell2 wr w.heap.size (.int .i64 N) (.slice (some ⟨g, 0, none⟩) n c)
  row : ZRow wr base zC (.slice (some ⟨g, 0, none⟩) n c) X
  ln : n = X.length
section
variable {w wr : World} {base g n c : Nat} {N : Int} {X : List Cel}
theorem FW.drew (h : FW w base g n c N X wr) : FW w base g n c N X wr.drew := ⟨h.but.drew, h.zv.drew, h.row, h.ln⟩
theorem FW.alloc (h : FW w base g n c N X wr) (o : Obj) : FW w base g n c N X (wr.alloc o) := ⟨h.but.alloc o, h.zv.alloc o, h.row.alloc o, h.ln⟩
theorem FW.put (h : FW w base g n c N X wr) (hg : w.heap.size ≠ g) (k : Nat) (a : Bool) (m : Int) :
    FW w base g n c N (X.set k ⟨a, m⟩) ((wr.setCell ⟨g, k * 2, none⟩ (.bool a)).setCell ⟨g, k * 2 + 1, none⟩ (.int .i64 m)) :=
  ⟨(h.but.set _ _).set _ _, (h.zv.set (by omega) _ _).set (by omega) _ _, h.row.put h.ln k a m, by rw [List.length_set]; exact h.ln⟩
end
set_option maxRecDepth 100000 in
set_option maxHeartbeats 4000000 in
theorem zforget0_any (g len c n x base : Nat) (N : Int) (L : List Cel) (w : World) (hN : N + 1 = n) (hn1 : 1 ≤ n) (hn : n ≤ 5) (hl : len = n * n) (hx : x < n) (hz : ZRow w base zC (.slice (some ⟨g, 0, none⟩) len c) L) (hlen : L.length = len) :
    Calls Tryd.prog 103 #[.agg #[.int .i64 N, .slice (some ⟨g, 0, none⟩) len c], .int .i64 x] w fun e w' => e = .returned (.tuple #[]) ∧ ZRow w' base zC (.slice (some ⟨g, 0, none⟩) len c) (forgetL n x L) ∧ But g w w' := by
  have hgs : g < w.heap.size := by
    obtain ⟨g', cap, e, _, h2⟩ := hz.form (by rw [hlen, hl]; exact Nat.mul_pos hn1 hn1)
    simp only [Value.slice.injEq, Option.some.injEq, Addr.mk.injEq] at e
    obtain ⟨⟨rfl, _⟩, _⟩ := e
    exact h2
  have hbo : w.heap.size ≠ g := by omega
  have HS : Hid (FW w base g len c N L (w.alloc (.cells #[.int .i64 N, .slice (some ⟨g, 0, none⟩) len c] 37))) := ⟨(But.refl _ _).alloc _, Cell2.new w _ _ _, hz.alloc _, hlen.symm⟩
  have HN := Lib.hid hN
  have Hl := Lib.hid hl
  have HL := Lib.hid hlen
  have hNb : 0 ≤ N ∧ N ≤ 4 := by omega
  have hN1 : N + 1 ≤ n ∧ (n : Int) ≤ N + 1 := by omega
  have hlen2 : 1 ≤ len ∧ len ≤ 25 := by rw [hl]; exact ⟨Nat.mul_le_mul hn1 hn1, Nat.mul_le_mul hn hn⟩
  clear hz hN hl hlen
  go_enter Tryd.func103, Tryd.ntmps103
  go_wp2
  go_loopw [8] (fun i wr => ∃ q : Nat, q ≤ n ∧ i = .int .i64 q ∧ Hid (FW w base g len c N (rep (forgetI n x) q L) wr)) (fun i _ => n - (intOf i).toNat)
  case atStart => exact ⟨0, Nat.zero_le _, rfl, HS⟩
  case round =>
    obtain ⟨q, hq, rfl, HQ⟩ := hrel
    clear HS
    obtain ⟨bl, b0, b1, bf0, bf1⟩ := HQ.out.zv
    by_cases hlt : q < n
    · have i1 : q * n + x < len := by rw [Hl.out]; exact idx_lt hlt hx
      have i2 : x * n + q < len := by rw [Hl.out]; exact idx_lt hx hlt
      have hltz : (q : Int) < N + 1 := by omega
      have HD := Lib.hid HQ.out.drew
      have HSt : Hid (rep (forgetI n x) (q + 1) L = ((rep (forgetI n x) q L).set (q * n + x) ⟨false, 0⟩).set (x * n + q) ⟨false, 0⟩) := rfl
      go_upto_region 4 with fail
      refine start_ (n := 14) (S := fun w' => w'.cell? ⟨w.heap.size, 0, none⟩ = some (.int .i64 N) ∧ w'.cell? ⟨w.heap.size, 1, none⟩ = some (.slice (some ⟨g, 0, none⟩) len c)) (ds := [11, 13]) #[false, false, false, false, false, false, false, false, false, false, false, false, false, false] (by kernel_rfl) rfl rfl ⟨HD.out.zv.c0, HD.out.zv.c1⟩ (fun hHeld => ?_)
      generalize wr.drew = wd at HD hHeld ⊢
      refine pure_ (i := 1) (N := some 12) (v := ?_) (a' := ?_) #[false, true, false, false, false, false, false, false, false, false, false, false, false, false] rfl rfl (by kernel_rfl) (fun _ _ _ h => h) (Or.inl ⟨by rfl, ?_⟩) ?_ ?_
      rotate_left
      · intro w'
        go_simp
        with_reducible rfl
      rotate_left
      · simp only [Act.put, List.setIfInBounds_toArray, List.set_cons_zero, List.set_cons_succ, i64_w, i32_w]
        rfl
      refine pure_ (i := 2) (N := some 13) (v := ?_) (a' := ?_) #[false, true, true, false, false, false, false, false, false, false, false, false, false, false] rfl rfl (by kernel_rfl) (fun _ _ _ h => h) (Or.inl ⟨by rfl, ?_⟩) ?_ ?_
      rotate_left
      · intro w'
        go_simp
        with_reducible rfl
      rotate_left
      · simp only [Act.put, List.setIfInBounds_toArray, List.set_cons_zero, List.set_cons_succ, i64_w, i32_w]
        rfl
      refine pure_ (i := 5) (N := some 16) (v := ?_) (a' := ?_) #[false, true, true, false, false, true, false, false, false, false, false, false, false, false] rfl rfl (by kernel_rfl) (fun _ _ _ h => h) (Or.inl ⟨by rfl, ?_⟩) ?_ ?_
      rotate_left
      · intro w'
        go_simp
        with_reducible rfl
      rotate_left
      · simp only [Act.put, List.setIfInBounds_toArray, List.set_cons_zero, List.set_cons_succ, i64_w, i32_w]
        rfl
      refine pure_ (i := 6) (N := some 17) (v := ?_) (a' := ?_) #[false, true, true, false, false, true, true, false, false, false, false, false, false, false] rfl rfl (by kernel_rfl) (fun _ _ _ h => h) (Or.inl ⟨by rfl, ?_⟩) ?_ ?_
      rotate_left
      · intro w'
        go_simp
        with_reducible rfl
      rotate_left
      · simp only [Act.put, List.setIfInBounds_toArray, List.set_cons_zero, List.set_cons_succ, i64_w, i32_w]
        rfl
      refine pure_ (i := 8) (N := some 19) (v := ?_) (a' := ?_) #[false, true, true, false, false, true, true, false, true, false, false, false, false, false] rfl rfl (by kernel_rfl) (fun _ _ _ h => h) (Or.inl ⟨by rfl, ?_⟩) ?_ ?_
      rotate_left
      · intro w'
        go_simp
        with_reducible rfl
      rotate_left
      · simp only [Act.put, List.setIfInBounds_toArray, List.set_cons_zero, List.set_cons_succ, i64_w, i32_w]
        rfl
      refine pure_ (i := 9) (N := some 20) (v := ?_) (a' := ?_) #[false, true, true, false, false, true, true, false, true, true, false, false, false, false] rfl rfl (by kernel_rfl) (fun _ _ _ h => h) (Or.inl ⟨by rfl, ?_⟩) ?_ ?_
      rotate_left
      · intro w'
        go_simp
        with_reducible rfl
      rotate_left
      · simp only [Act.put, List.setIfInBounds_toArray, List.set_cons_zero, List.set_cons_succ, i64_w, i32_w]
        rfl
      refine take_ (i := 0) (N := some 11) (v := ?_) (a' := ?_) #[true, true, true, false, false, true, true, false, true, true, false, false, false, false] rfl rfl (by kernel_rfl) (fun _ _ _ h => h) (Or.inl ⟨by rfl, ?_⟩) hHeld ?_ ?_
      rotate_left
      · rintro w' ⟨s0, s1⟩
        go_simp
        with_reducible rfl
      rotate_left
      · simp only [Act.put, List.setIfInBounds_toArray, List.set_cons_zero, List.set_cons_succ, i64_w, i32_w]
        rfl
      refine take_ (i := 4) (N := some 15) (v := ?_) (a' := ?_) #[true, true, true, false, true, true, true, false, true, true, false, false, false, false] rfl rfl (by kernel_rfl) (fun _ _ _ h => h) (Or.inl ⟨by rfl, ?_⟩) hHeld ?_ ?_
      rotate_left
      · rintro w' ⟨s0, s1⟩
        go_simp
        with_reducible rfl
      rotate_left
      · simp only [Act.put, List.setIfInBounds_toArray, List.set_cons_zero, List.set_cons_succ, i64_w, i32_w]
        rfl
      refine one_ (i := 3) (N := some 14) #[true, true, true, true, true, true, true, false, true, true, false, false, false, false] rfl rfl (by kernel_rfl) (by decide) (fun K hK => ?_)
      refine goes_ Tryd.func76 (by kernel_rfl) rfl #[.agg #[.int .i64 N, .slice (some ⟨g, 0, none⟩) len c], .int .i64 q, .int .i64 x] (by rfl) rfl rfl (by simp only [List.map_toArray, List.map_cons, List.map_nil]; rfl) ?_
      with_reducible refine (at_easy n _ _ HN.out (by omega) Hl.out hlt hx).mono ?_
      rintro e wz ⟨rfl, o1, rfl⟩
      refine ⟨_, rfl, ?_⟩
      have HA := HD.out.alloc o1
      refine hK.out _ _ ⟨HA.zv.c0, HA.zv.c1⟩ (fun hHeld => ?_)
      clear hK K
      refine norm_ (a' := ?_) ?_ ?_
      rotate_left
      · show Act.put _ (some 14) _ = _
        simp only [Act.put, List.setIfInBounds_toArray, List.set_cons_zero, List.set_cons_succ, i64_w, i32_w]
        rfl
      refine one_ (i := 7) (N := some 18) #[true, true, true, true, true, true, true, true, true, true, false, false, false, false] rfl rfl (by kernel_rfl) (by decide) (fun K hK => ?_)
      refine goes_ Tryd.func76 (by kernel_rfl) rfl #[.agg #[.int .i64 N, .slice (some ⟨g, 0, none⟩) len c], .int .i64 x, .int .i64 q] (by rfl) rfl rfl (by simp only [List.map_toArray, List.map_cons, List.map_nil]; rfl) ?_
      with_reducible refine (at_easy n _ _ HN.out (by omega) Hl.out hx hlt).mono ?_
      rintro e wz ⟨rfl, o2, rfl⟩
      refine ⟨_, rfl, ?_⟩
      have HB := HA.alloc o2
      have c0 := HB.row.at0 HB.ln i1
      have c1 := HB.row.at1 HB.ln i1
      have f0 := HB.row.free HB.ln ((q * n + x) * 2)
      have f1 := HB.row.free HB.ln ((q * n + x) * 2 + 1)
      refine hK.out _ _ ⟨HB.zv.c0, HB.zv.c1⟩ (fun hHeld => ?_)
      clear hK K
      refine norm_ (a' := ?_) ?_ ?_
      rotate_left
      · show Act.put _ (some 18) _ = _
        simp only [Act.put, List.setIfInBounds_toArray, List.set_cons_zero, List.set_cons_succ, i64_w, i32_w]
        rfl
      refine pure_ (i := 10) (N := some 21) (v := ?_) (a' := ?_) #[true, true, true, true, true, true, true, true, true, true, true, false, false, false] rfl rfl (by kernel_rfl) (fun _ _ _ h => h) (Or.inl ⟨by rfl, ?_⟩) ?_ ?_
      rotate_left
      · intro w'
        go_simp
        with_reducible rfl
      rotate_left
      · simp only [Act.put, List.setIfInBounds_toArray, List.set_cons_zero, List.set_cons_succ, i64_w, i32_w]
        rfl
      refine last_ (i := 11) (N := none) #[true, true, true, true, true, true, true, true, true, true, true, true, false, false] rfl rfl (by kernel_rfl) (by decide) (fun K hK => ?_)
      refine skip_ (w1 := ?_) (by rfl) rfl ?_ ?_
      rotate_left
      · go_simp
        rfl
      have HC := HB.put hbo (q * n + x) false 0
      clear c0 c1 f0 f1
      have c0 := HC.row.at0 HC.ln i2
      have c1 := HC.row.at1 HC.ln i2
      have f0 := HC.row.free HC.ln ((x * n + q) * 2)
      have f1 := HC.row.free HC.ln ((x * n + q) * 2 + 1)
      refine hK.out _ _ ?_
      clear hK K
      refine pure_ (i := 12) (N := some 22) (v := ?_) (a' := ?_) #[true, true, true, true, true, true, true, true, true, true, true, true, true, false] rfl rfl (by kernel_rfl) (fun _ _ _ h => h) (Or.inl ⟨by rfl, ?_⟩) ?_ ?_
      rotate_left
      · intro w'
        go_simp
        with_reducible rfl
      rotate_left
      · simp only [Act.put, List.setIfInBounds_toArray, List.set_cons_zero, List.set_cons_succ, i64_w, i32_w]
        rfl
      refine last_ (i := 13) (N := none) #[true, true, true, true, true, true, true, true, true, true, true, true, true, true] rfl rfl (by kernel_rfl) (by decide) (fun K hK => ?_)
      refine skip_ (w1 := ?_) (by rfl) rfl ?_ ?_
      rotate_left
      · go_simp
        rfl
      have HE := HC.put hbo (x * n + q) false 0
      clear c0 c1 f0 f1
      refine hK.out _ _ ?_
      clear hK K
      refine done_ (by kernel_rfl) ?_

      go_wp2
      exact ⟨⟨q + 1, by omega, by go_num, by show FW _ _ _ _ _ _ _ _; rw [HSt.out]; exact HE⟩, by simp [intOf]; omega⟩
    · obtain rfl : q = n := by omega
      have hge : ¬ ((q : Int) < N + 1) := by omega
      have i3 : x * q + x < len := by rw [Hl.out]; exact idx_lt hx hx
      go_wp2_with fail
      refine (at_easy q x x HN.out (by omega) Hl.out hx hx).mono ?_
      rintro e w5 ⟨rfl, o5, rfl⟩
      have HA := HQ.out.alloc o5
      have c0 := HA.row.at0 HA.ln i3
      have c1 := HA.row.at1 HA.ln i3
      have f0 := HA.row.free HA.ln ((x * q + x) * 2)
      have f1 := HA.row.free HA.ln ((x * q + x) * 2 + 1)
      have HE := Lib.hid (HA.put hbo (x * q + x) true 0)
      go_wp2
      go_end0
      exact ⟨rfl, HE.out.row, HE.out.but⟩

/-- What it comes to. -/
def forgetR (N : Int) (L : List Cel) (x : Int) : Int × List ZC × Bool × Option Int :=
  match zErr N L with
  | some e => (0, [], false, some e)
  | none => if x < 1 ∨ x > N then (0, [], false, some 3) else
    match closeZ (N + 1).toNat L with
    | none => (0, [], false, none)
    | some C => (N, zces (forgetL (N + 1).toNat x.toNat C), true, none)
set_option maxRecDepth 100000 in
set_option maxHeartbeats 4000000 in
theorem zforget_any [EA] (A : Option Addr) (n c : Nat) (N x : Int) (L : List Cel) (w : World) (hz : RCel w A n L) (h2 : ErrAt 2 1 w) (h3 : ErrAt 3 0 w) :
    Calls Tryd.prog 59 #[.agg #[.int .i64 N, .slice A n c], .int .i64 x] w (ZRet w (forgetR N L x)) := by
  have HL := Lib.hid hz.1
  have HZ := Lib.hid hz
  have HE3 := Lib.hid h3
  have hv := fun W (h : Below w.heap.size w W) => zvalid_any A n c N L W (hz.below h) (h2.below h) (h3.below h)
  obtain ⟨R, hR⟩ : ∃ R, R = forgetR N L x := ⟨_, rfl⟩
  rw [← hR]
  have l3 := h3.lt
  clear hz h2 h3
  have H0 : Hid (Cell2 ((w.alloc (.cells #[.int .i64 N, .slice A n c] 37)).alloc (.cells #[.int .i64 0, .slice none 0 0] 37)) w.heap.size (.int .i64 N) (.slice A n c)) := (Cell2.new w _ _ _).alloc _
  have H1 : Hid (Cell2 ((w.alloc (.cells #[.int .i64 N, .slice A n c] 37)).alloc (.cells #[.int .i64 0, .slice none 0 0] 37)) (w.heap.size + 1) (.int .i64 0) (.slice none 0 0)) := by
    have := Cell2.new (w.alloc (.cells #[.int .i64 N, .slice A n c] 37)) (.int .i64 0) (.slice none 0 0) 37
    show Cell2 _ _ _ _
    simpa using this
  have HW : Hid (Below w.heap.size w ((w.alloc (.cells #[.int .i64 N, .slice A n c] 37)).alloc (.cells #[.int .i64 0, .slice none 0 0] 37))) := Go.Proofs.Rcn.below_alloc (Go.Proofs.Rcn.below_alloc (Below.refl _ _) _) _
  cases hE : zErr N L with
  | some er =>
    obtain rfl : R = (0, [], false, some er) := by rw [hR]; unfold forgetR; rw [hE]
    rw [hE] at hv
    have HV := Lib.hid hv
    clear hE hR hv
    go_enter Tryd.func59, Tryd.ntmps59
    go_wp2_with fail
    refine (HV.out _ HW.out).mono ?_
    rintro e w1 ⟨rfl, hb1⟩
    have HW1 := Lib.hid (below_then HW.out hb1)
    obtain ⟨rl, r0, r1, rf0, rf1⟩ := H1.out.below hb1
    clear hb1
    simp only [errW_some]
    go_wp2
    refine bodyPost_ret (v := .tuple #[.agg #[.int .i64 0, .slice none 0 0], .bool false, errW (some er)]) (by simp [results, Tryd.results59, go_sem, rl, r0, r1, rf0, rf1, errW_some]) rfl (ZRet.no ?_)
    repeat (first | exact HW1.out | refine Go.Proofs.Rcn.below_set ?_ (by simp) _)
  | none =>
    obtain ⟨n1, hn1, h11, h15, hlen, hbad, hfar⟩ := zErr_none hE
    clear hbad hfar
    rw [hE] at hv
    have HV := Lib.hid hv
    have HN := Lib.hid hn1
    have HLen := Lib.hid hlen
    clear hv hn1 hlen
    by_cases hin : x < 1 ∨ x > N
    · obtain rfl : R = (0, [], false, some 3) := by rw [hR]; unfold forgetR; rw [hE]; simp only [if_pos hin]
      have hany : ([x].any fun y => decide (y < 1 ∨ y > N)) = true := by
        simp only [List.any_cons, List.any_nil, Bool.or_false, decide_eq_true_eq]
        exact hin
      have hvar := fun W A2 (h : RInts W A2 1 [x]) => zvar_any A n c N 1 A2 1 1 [x] W h (by omega)
      rw [hany] at hvar
      have HVar := Lib.hid hvar
      clear hE hR hin hany hvar
      go_enter Tryd.func59, Tryd.ntmps59
      go_wp2_with fail
      refine (HV.out _ HW.out).mono ?_
      rintro e w1 ⟨rfl, hb1⟩
      have HW1 := Lib.hid (below_then HW.out hb1)
      have K0 := Lib.hid (H0.out.below hb1)
      have K1 := Lib.hid (H1.out.below hb1)
      obtain ⟨bl, b0, b1, bf0, bf1⟩ := K0.out
      clear hb1
      simp only [errW_none]
      go_wp2_with fail
      refine (HVar.out _ _ ⟨rfl, fun _ => ⟨_, 0, rfl, fun k hk => ?_⟩⟩).mono ?_
      · obtain rfl : k = 0 := by omega
        simp [go_sem]
      rintro e w2 ⟨rfl, hb2⟩
      have HW2 := Lib.hid (below_then (Go.Proofs.Rcn.below_alloc HW1.out _) hb2)
      obtain ⟨rl, r0, r1, rf0, rf1⟩ := (K1.out.alloc _).below hb2
      have e3 := (HE3.out.below HW2.out).cell
      have e3l := (HE3.out.below HW2.out).lt
      clear hb2 bl b0 b1 bf0 bf1
      go_wp2_with fail
      go_region
      all_goals (try go_wp2)
      all_goals
        refine bodyPost_ret (v := .tuple #[.agg #[.int .i64 0, .slice none 0 0], .bool false, errW (some 3)]) (by simp [results, Tryd.results59, go_sem, rl, r0, r1, rf0, rf1, errW_some]) rfl (ZRet.no ?_)
        repeat (first | exact HW2.out | refine Go.Proofs.Rcn.below_set ?_ (by simp) _ | refine Go.Proofs.Rcn.below_drew ?_)
    · have hany : ([x].any fun y => decide (y < 1 ∨ y > N)) = false := by
        simp only [List.any_cons, List.any_nil, Bool.or_false, decide_eq_false_iff_not]
        exact hin
      have hvar := fun W A2 (h : RInts W A2 1 [x]) => zvar_any A n c N 1 A2 1 1 [x] W h (by omega)
      rw [hany] at hvar
      have HVar := Lib.hid hvar
      clear hany hvar
      obtain ⟨p, hp⟩ : ∃ p : Nat, x = p := ⟨x.toNat, by omega⟩
      subst hp
      have hp1 : p < n1 := by have := HN.out; omega
      have hL2 : n = n1 * n1 := by rw [← HL.out]; exact HLen.out
      have en : (N + 1).toNat = n1 := by have := HN.out; omega
      have hR' : R = (match closeZ n1 L with
        | none => (0, [], false, none)
        | some C => (N, zces (forgetL n1 p C), true, none)) := by
        rw [hR]; unfold forgetR; rw [hE]; simp only [if_neg hin, en]; rfl
      obtain ⟨CL, hCL⟩ : ∃ C, closeZ n1 L = C := ⟨_, rfl⟩
      rw [hCL] at hR'
      have HR := Lib.hid hR'
      have HCL := Lib.hid hCL
      have hlen1 : 1 ≤ n ∧ n ≤ 25 := by rw [hL2]; exact ⟨Nat.mul_le_mul h11 h11, Nat.mul_le_mul h15 h15⟩
      have HL2 := Lib.hid hL2
      clear hE hR hin hR' hCL hL2 en
      go_enter Tryd.func59, Tryd.ntmps59
      go_wp2_with fail
      refine (HV.out _ HW.out).mono ?_
      rintro e w1 ⟨rfl, hb1⟩
      have HW1 := Lib.hid (below_then HW.out hb1)
      have K0 := Lib.hid (H0.out.below hb1)
      have K1 := Lib.hid (H1.out.below hb1)
      obtain ⟨bl, b0, b1, bf0, bf1⟩ := K0.out
      clear hb1
      simp only [errW_none]
      go_wp2_with fail
      refine (HVar.out _ _ ⟨rfl, fun _ => ⟨_, 0, rfl, fun k hk => ?_⟩⟩).mono ?_
      · obtain rfl : k = 0 := by omega
        simp [go_sem]
      rintro e w2 ⟨rfl, hb2⟩
      have HW2 := Lib.hid (below_then (Go.Proofs.Rcn.below_alloc HW1.out _) hb2)
      have M0 := Lib.hid ((K0.out.alloc _).below hb2)
      have M1 := Lib.hid ((K1.out.alloc _).below hb2)
      clear hb2 bl b0 b1 bf0 bf1
      obtain ⟨bl, b0, b1, bf0, bf1⟩ := M0.out
      go_wp2_with fail
      refine (zclose_any A n1 n c N L _ HN.out h11 h15 HL2.out (HZ.out.below HW2.out) HCL.out).mono ?_
      rintro e w3 ⟨z3, A3, n3, c3, ok3, rfl, hp3, hb3⟩
      have HW3 := Lib.hid (below_then HW2.out hb3)
      have P1 := Lib.hid (M1.out.below hb3)
      have hw2 := HW2.out.size
      have hp1l := M1.out.lt
      have hp3l := P1.out.lt
      clear hb3 bl b0 b1 bf0 bf1
      cases CL with
      | none =>
        obtain ⟨rfl, rfl, rfl, rfl, rfl⟩ := hp3
        obtain rfl : R = (0, [], false, none) := HR.out
        obtain ⟨rl, r0, r1, rf0, rf1⟩ := P1.out
        go_wp2
        refine bodyPost_ret (v := .tuple #[.agg #[.int .i64 0, .slice none 0 0], .bool false, errW none]) (by simp [results, Tryd.results59, go_sem, rl, r0, r1, rf0, rf1, errW_none]) rfl (ZRet.no ?_)
        repeat (first | exact HW3.out | refine Go.Proofs.Rcn.below_alloc ?_ _ | refine Go.Proofs.Rcn.below_set ?_ (by first | (simp; done) | (simp; omega)) _ | refine Go.Proofs.Rcn.below_drew ?_)
      | some C =>
        obtain ⟨rfl, rfl, rfl, hr3⟩ := hp3
        obtain rfl : R = (z3, zces (forgetL n1 p C), true, none) := HR.out
        have hlenC := hr3.rcel.1.1
        obtain ⟨g, cap, hv3, hg1, hg2⟩ := hr3.form (by rw [hlenC]; omega)
        simp only [Value.slice.injEq] at hv3
        obtain ⟨rfl, -, rfl⟩ := hv3
        have HR3 := Lib.hid hr3
        clear hr3
        have hgw : w.heap.size + 1 ≠ g := by omega
        have hg3 : w3.heap.size ≠ g := by omega
        go_wp2_with fail
        refine (zforget0_any g n3 c3 n1 p w2.heap.size z3 C _ HN.out h11 h15 HL2.out hp1 (HR3.out.alloc _) hlenC).mono ?_
        rintro e w4 ⟨rfl, hr4, hbut4⟩
        have HW4 : Hid (Below w.heap.size w w4) := hbut4.below (Go.Proofs.Rcn.below_alloc HW3.out _) (by simp; omega) (by omega)
        have S1 : Hid (Cell2 w4 (w.heap.size + 1) (.int .i64 0) (.slice none 0 0)) := (P1.out.alloc _).but hbut4 (by omega)
        have S2 : Hid (Cell2 w4 w3.heap.size (.int .i64 z3) (.slice (some ⟨g, 0, none⟩) n3 c3)) := (Cell2.new w3 _ _ _).but hbut4 (by omega)
        have HR4 := Lib.hid hr4
        clear hbut4 hr4
        obtain ⟨rl, r0, r1, rf0, rf1⟩ := S1.out
        obtain ⟨bl, b0, b1, bf0, bf1⟩ := S2.out
        go_wp2
        refine bodyPost_ret (v := .tuple #[.agg #[.int .i64 z3, .slice (some ⟨g, 0, none⟩) n3 c3], .bool true, errW none]) (by simp [results, Tryd.results59, go_sem, rl, r0, r1, rf0, rf1, bl, b0, b1, errW_none]) rfl ⟨.slice (some ⟨g, 0, none⟩) n3 c3, rfl, ?_, ?_⟩
        · have k1 := ownsRow_setCell_below HR4.out (a := ⟨w.heap.size + 1, 0, none⟩) (by simp <;> omega) (.int .i64 z3)
          have k2 := ownsRow_setCell_below k1 (a := ⟨w.heap.size + 1, 1, none⟩) (by simp <;> omega) (.slice (some ⟨g, 0, none⟩) n3 c3)
          exact R_of_zrow (ZRow.low k2 (by omega))
        · repeat (first | exact HW4.out | refine Go.Proofs.Rcn.below_set ?_ (by first | (simp; done) | (simp; omega)) _)
theorem zone_Forget.calls [EA] (a0_0 : Int) (A0_1 : Option Addr) (c0_1 : Nat) (l0_1 : List ZC) (a1 : Int) (r1 : Int) (r2 : List ZC) (r3 : Bool) (r4 : Option Int) (w : World) (hr0_1 : Kd.C k42 w A0_1 l0_1.length l0_1) (hc0_1 : l0_1.length ≤ c0_1) (h : zone_Forget.f a0_0 l0_1 a1 = some (r1, r2, r3, r4)) (h2_ : ErrAt 2 1 w) (h3_ : ErrAt 3 0 w) :
    Calls Tryd.prog 59 #[.agg #[.int .i64 a0_0, .slice A0_1 l0_1.length c0_1], .int .i64 a1] w fun e w' => ∃ v1_ : Value, e = .returned (.tuple #[.agg #[.int .i64 r1, v1_], .bool r3, errW r4]) ∧ Kd.R k42 42 w' w.heap.size (fun _ => True) v1_ r2 ∧ Below w.heap.size w w' := by
  have e : forgetR a0_0 (cels l0_1) a1 = (r1, r2, r3, r4) := by
    unfold zone_Forget.f at h
    unfold forgetR
    cases hE : zErr a0_0 (cels l0_1) with
    | some er => rw [hE] at h; exact Option.some.inj h
    | none =>
      rw [hE] at h
      simp only at h ⊢
      by_cases c1 : a1 < 1 ∨ a1 > a0_0
      · rw [if_pos c1] at h ⊢; exact Option.some.inj h
      · rw [if_neg c1] at h ⊢
        cases hC : closeZ (a0_0 + 1).toNat (cels l0_1) <;> (rw [hC] at h; exact Option.some.inj h)
  have q := zforget_any A0_1 l0_1.length c0_1 a0_0 a1 (cels l0_1) w (rcel_of_C hr0_1) h2_ h3_
  rw [e] at q
  exact q
end Go.Proofs.Rcg
