import Derived.Test.YtcalcnfppnbooaaDoorZwZn
/- Package zone: the meet of two. -/
set_option linter.unusedVariables false
set_option linter.unusedSimpArgs false
namespace Go.Proofs.Rcg
open Go Go.RowKit Go.Proofs.Rcn Go.Proofs.YtcalcnfppnbooaaDoor.Z Go.Proofs.YtcalcnfppnbooaaDoorW.PrintWords

/-- A copy in the making: its row, its variable. -/
structure MW (w1 : World) (bo g n c : Nat) (N : Int) (X : List Cel) (wr : World) : Prop where
  below : Below w1.heap.size w1 wr
  out : Cell2 wr bo (.int .i64 N) (.slice (some ⟨g, 0, none⟩) n c)
  row : ZRow wr w1.heap.size zC (.slice (some ⟨g, 0, none⟩) n c) X
  ln : n = X.length
section
variable {w1 wr : World} {bo g n c : Nat} {N : Int} {X : List Cel}
theorem MW.drew (h : MW w1 bo g n c N X wr) : MW w1 bo g n c N X wr.drew :=
  ⟨Go.Proofs.Rcn.below_drew h.below, h.out.drew, h.row, h.ln⟩
theorem MW.drewN (h : MW w1 bo g n c N X wr) (q : Nat) : MW w1 bo g n c N X (wr.drewN q) :=
  ⟨Go.Proofs.Rcn.below_drewN h.below q, ⟨h.out.lt, h.out.c0, h.out.c1, h.out.f0, h.out.f1⟩, h.row, h.ln⟩
theorem MW.alloc (h : MW w1 bo g n c N X wr) (o : Obj) : MW w1 bo g n c N X (wr.alloc o) :=
  ⟨Go.Proofs.Rcn.below_alloc h.below o, h.out.alloc o, h.row.alloc o, h.ln⟩
theorem MW.least (h : MW w1 bo g n c N X wr) (hg : w1.heap.size ≤ g) (hbo : bo ≠ g) {k : Nat} (hk : k < n) (b : Bool) (m : Int) :
    Calls Tryd.prog 114 #[.pointer (some ⟨g, k * 2, none⟩), .bool b, .int .i64 m] wr fun e w' => e = .returned (.tuple #[]) ∧ MW w1 bo g n c N (leastL X k b m) w' :=
  (least_any g n c k w1.heap.size X b m wr h.row h.ln hk).mono fun e w' q => ⟨q.1, q.2.2.below h.below h.below.size hg, h.out.but q.2.2 hbo, q.2.1, by rw [leastL_length]; exact h.ln⟩
end
def metI (K : List Cel) (X : List Cel) (i : Nat) : List Cel := leastL X i (cg K i).has (cg K i).most
def meetR (N : Int) (L : List Cel) (M : Int) (K : List Cel) : Int × List ZC × Bool × Option Int :=
  match zTwo N L M K with
  | some e => (0, [], false, some e)
  | none => ((shutZ N (metL L K)).1, (shutZ N (metL L K)).2.1, (shutZ N (metL L K)).2.2, none)
set_option maxRecDepth 100000 in
set_option maxHeartbeats 8000000 in
theorem zmeet_any [EA] (A : Option Addr) (n c : Nat) (N : Int) (L : List Cel) (A' : Option Addr) (n' c' : Nat) (M : Int) (K : List Cel) (w : World) (hz : RCel w A n L) (hz' : RCel w A' n' K) (h2 : ErrAt 2 1 w) (h3 : ErrAt 3 0 w) :
    Calls Tryd.prog 52 #[.agg #[.int .i64 N, .slice A n c], .agg #[.int .i64 M, .slice A' n' c']] w (ZRet w (meetR N L M K)) := by
  have HL := Lib.hid hz.1
  have HL' := Lib.hid hz'.1
  have HZ := Lib.hid hz
  have HZ' := Lib.hid hz'
  have hv := fun W (h : Below w.heap.size w W) => ztwo_any A n c N L A' n' c' M K W (hz.below h) (hz'.below h) (h2.below h) (h3.below h)
  obtain ⟨R, hR⟩ : ∃ R, R = meetR N L M K := ⟨_, rfl⟩
  rw [← hR]
  clear hz hz' h2 h3
  obtain ⟨w3, hw3⟩ : ∃ w3, w3 = ((w.alloc (.cells #[.int .i64 N, .slice A n c] 30)).alloc (.cells #[.int .i64 M, .slice A' n' c'] 30)).alloc (.cells #[.int .i64 0, .slice none 0 0] 30) := ⟨_, rfl⟩
  have H0 : Hid (Cell2 w3 w.heap.size (.int .i64 N) (.slice A n c)) := by show Cell2 _ _ _ _; rw [hw3]; exact ((Cell2.new w _ _ _).alloc _).alloc _
  have H1 : Hid (Cell2 w3 (w.heap.size + 1) (.int .i64 M) (.slice A' n' c')) := by
    have := (Cell2.new (w.alloc (.cells #[.int .i64 N, .slice A n c] 30)) (.int .i64 M) (.slice A' n' c') 30).alloc (.cells #[.int .i64 0, .slice none 0 0] 30)
    show Cell2 _ _ _ _
    rw [hw3]
    simpa using this
  have H2 : Hid (Cell2 w3 (w.heap.size + 2) (.int .i64 0) (.slice none 0 0)) := by
    have := Cell2.new ((w.alloc (.cells #[.int .i64 N, .slice A n c] 30)).alloc (.cells #[.int .i64 M, .slice A' n' c'] 30)) (.int .i64 0) (.slice none 0 0) 30
    show Cell2 _ _ _ _
    rw [hw3]
    simpa using this
  have HW : Hid (Below w.heap.size w w3) := by show Below _ _ _; rw [hw3]; exact Go.Proofs.Rcn.below_alloc (Go.Proofs.Rcn.below_alloc (Go.Proofs.Rcn.below_alloc (Below.refl _ _) _) _) _
  have HW3 := Lib.hid hw3
  cases hE : zTwo N L M K with
  | some er =>
    obtain rfl : R = (0, [], false, some er) := by rw [hR]; unfold meetR; rw [hE]
    rw [hE] at hv
    have HV := Lib.hid (hv w3 HW.out)
    clear hE hR hv
    subst hw3
    go_enter Tryd.func52, Tryd.ntmps52
    go_wp2_with fail
    refine HV.out.mono ?_
    rintro e w1 ⟨rfl, hb1⟩
    have HW1 := Lib.hid (below_then HW.out hb1)
    obtain ⟨rl, r0, r1, rf0, rf1⟩ := H2.out.below hb1
    clear hb1
    simp only [errW_some]
    go_wp2
    refine bodyPost_ret (v := .tuple #[.agg #[.int .i64 0, .slice none 0 0], .bool false, errW (some er)]) (by simp [results, Tryd.results52, go_sem, rl, r0, r1, rf0, rf1, errW_some]) rfl (ZRet.no ?_)
    repeat (first | exact HW1.out | refine Go.Proofs.Rcn.below_set ?_ (by first | (simp; done) | (simp; omega)) _)
  | none =>
    obtain ⟨e1, e2, rfl⟩ := zTwo_none hE
    obtain ⟨n1, hn1, h11, h15, hlen, _, _⟩ := zErr_none e1
    obtain ⟨n2, hn2, _, _, hlen', _, _⟩ := zErr_none e2
    obtain rfl : n2 = n1 := by omega
    rw [hE] at hv
    have HV := Lib.hid (hv w3 HW.out)
    have en : (N + 1).toNat = n2 := by omega
    unfold meetR at hR
    rw [hE] at hR
    have HN := Lib.hid hn1
    have hn : n = n2 * n2 := by rw [← HL.out]; exact hlen
    have hn' : n' = n2 * n2 := by rw [← HL'.out]; exact hlen'
    have hnn : 1 ≤ n ∧ n ≤ 25 := by rw [hn]; exact ⟨Nat.mul_le_mul h11 h11, Nat.mul_le_mul h15 h15⟩
    obtain rfl : n' = n := by rw [hn', hn]
    have Hn := Lib.hid hn
    have HR : Hid (R = ((shutZ N (metL L K)).1, (shutZ N (metL L K)).2.1, (shutZ N (metL L K)).2.2, none)) := hR
    have HEn := Lib.hid en
    clear hE hv e1 e2 hn1 hn2 hlen hlen' en hR hn hn'
    subst hw3
    go_enter Tryd.func52, Tryd.ntmps52
    go_wp2_with fail
    refine HV.out.mono ?_
    rintro e w1 ⟨rfl, hb1⟩
    have HW1 := Lib.hid (below_then HW.out hb1)
    have B0 := Lib.hid (H0.out.below hb1)
    have B1 := Lib.hid (H1.out.below hb1)
    have B2 := Lib.hid (H2.out.below hb1)
    clear hb1
    obtain ⟨bl, b0, b1, bf0, bf1⟩ := B0.out
    simp only [errW_none]
    go_wp2_with fail
    refine (clone_any A n' c N L _ (HZ.out.below HW1.out) (by omega)).mono ?_
    rintro e w2 ⟨A2, c2, rfl, hr2, hb2⟩
    obtain ⟨g, cap, hv2, hg1, hg2⟩ := hr2.form (by rw [HL.out]; omega)
    simp only [Value.slice.injEq] at hv2
    obtain ⟨rfl, -, rfl⟩ := hv2
    have HW2 := Lib.hid (below_then HW1.out hb2)
    have D1 := Lib.hid (B1.out.below hb2)
    have hwl := B2.out.lt
    have HS : Hid (MW w1 w2.heap.size g n' c2 N L (w2.alloc (.cells #[.int .i64 N, .slice (some ⟨g, 0, none⟩) n' c2] 30))) :=
      ⟨Go.Proofs.Rcn.below_alloc hb2 _, Cell2.new w2 _ _ _, hr2.alloc _, HL.out.symm⟩
    have hbo : w2.heap.size ≠ g := by omega
    clear hb2 hr2 bl b0 b1 bf0 bf1
    obtain ⟨bl, b0, b1, bf0, bf1⟩ := D1.out
    go_wp2
    go_loopw [25] (fun i wr => ∃ q : Nat, q ≤ n' ∧ i = .int .i64 q ∧ Hid (MW w1 w2.heap.size g n' c2 N (rep (metI K) q L) wr)) (fun i _ => n' - (intOf i).toNat)
    case atStart => exact ⟨0, Nat.zero_le _, rfl, HS⟩
    case round =>
      obtain ⟨q, hq, rfl, HQ⟩ := hrel
      clear HS bl b0 b1 bf0 bf1
      by_cases hlt : q < n'
      · have hltz : (q : Int) < (n' : Int) := by omega
        have HSt : Hid (rep (metI K) (q + 1) L = leastL (rep (metI K) q L) q (cg K q).has (cg K q).most) := rfl
        obtain ⟨gy, oy, rfl, y0, y1⟩ := rcel_at ((HZ'.out.below HW1.out).below HQ.out.below) hlt
        have HA := Lib.hid (HQ.out.alloc (.cells #[.bool (cg K q).has, .int .i64 (cg K q).most] 120))
        generalize rep (metI K) q L = X at HQ HSt HA
        generalize cg K q = y at y0 y1 HSt HA
        obtain ⟨yh, ym⟩ := y
        simp only at y0 y1
        obtain ⟨ol, o0, o1, of0, of1⟩ := HA.out.out
        go_wp2_with fail
        go_region_with (with_reducible refine (MW.least (wr := World.drew _) HA.out.drew hg1 hbo hlt _ _).mono ?_; rintro e w9 ⟨rfl, HW9⟩; have HW9 := Lib.hid HW9)
        all_goals clear HV HW HW1 HL HL' HZ HZ' H0 H1 H2 B0 B1 B2 D1
        all_goals (try go_wp2)
        all_goals exact ⟨⟨q + 1, by omega, by go_num, by show MW _ _ _ _ _ _ _ _; rw [HSt.out]; exact HW9.out⟩, by simp [intOf]; omega⟩
      · obtain rfl : q = n' := by omega
        have hm : rep (metI K) q L = metL L K := by rw [← HL'.out]; rfl
        rw [hm] at HQ
        obtain ⟨bl, b0, b1, bf0, bf1⟩ := HQ.out.out
        have HB3 := Lib.hid (below_then HW1.out HQ.out.below)
        have F2 := Lib.hid (B2.out.below HQ.out.below)
        go_wp2_with fail
        refine (zclose_any (some ⟨g, 0, none⟩) n2 q c2 N (metL L K) _ HN.out h11 h15 Hn.out HQ.out.row.rcel.1 rfl).mono ?_
        rintro e w4 ⟨z4, A4, n4, c4, ok4, rfl, hp4, hb4⟩
        have HW4 := Lib.hid (below_then HB3.out hb4)
        obtain ⟨rl, r0, r1, rf0, rf1⟩ := F2.out.below hb4
        have hwr := HB3.out.size
        have hw41 := hb4.size
        have hF2 := F2.out.lt
        clear hb4 bl b0 b1 bf0 bf1
        unfold shutZ at HR
        rw [HEn.out] at HR
        generalize closeZ n2 (metL L K) = C at hp4 HR
        cases C with
        | none =>
          obtain ⟨rfl, rfl, rfl, rfl, rfl⟩ := hp4
          obtain rfl : R = (0, [], false, none) := HR.out
          go_wp2
          refine bodyPost_ret (v := .tuple #[.agg #[.int .i64 0, .slice none 0 0], .bool false, errW none]) (by simp [results, Tryd.results52, go_sem, rl, r0, r1, rf0, rf1, errW_none]) rfl (ZRet.no ?_)
          repeat (first | exact HW4.out | refine Go.Proofs.Rcn.below_alloc ?_ _ | refine Go.Proofs.Rcn.below_set ?_ (by first | (simp; done) | (simp; omega)) _ | refine Go.Proofs.Rcn.below_drew ?_)
        | some C =>
          obtain ⟨rfl, rfl, rfl, hr4⟩ := hp4
          obtain rfl : R = (z4, zces C, true, none) := HR.out
          have HR4 := Lib.hid hr4
          clear hr4
          go_wp2
          refine bodyPost_ret (v := .tuple #[.agg #[.int .i64 z4, .slice A4 n4 c4], .bool true, errW none]) (by simp [results, Tryd.results52, go_sem, rl, r0, r1, rf0, rf1, errW_none]) rfl ⟨.slice A4 n4 c4, rfl, ?_, ?_⟩
          · have k1 := ownsRow_setCell_below HR4.out (a := ⟨w.heap.size + 1 + 1, 0, none⟩) (by simp <;> omega) (.int .i64 z4)
            have k2 := ownsRow_setCell_below k1 (a := ⟨w.heap.size + 1 + 1, 1, none⟩) (by simp <;> omega) (.slice A4 n4 c4)
            exact R_of_zrow (ZRow.low (ZRow.alloc k2 _) (by first | (simp; done) | (simp; omega) | omega))
          · repeat (first | exact HW4.out | refine Go.Proofs.Rcn.below_alloc ?_ _ | refine Go.Proofs.Rcn.below_set ?_ (by first | (simp; done) | (simp; omega)) _)
theorem zone_Meet.calls [EA] (a0_0 : Int) (A0_1 : Option Addr) (c0_1 : Nat) (l0_1 : List ZC) (a1_0 : Int) (A1_1 : Option Addr) (c1_1 : Nat) (l1_1 : List ZC) (r1 : Int) (r2 : List ZC) (r3 : Bool) (r4 : Option Int) (w : World) (hr0_1 : Kd.C k120 w A0_1 l0_1.length l0_1) (hc0_1 : l0_1.length ≤ c0_1) (hr1_1 : Kd.C k120 w A1_1 l1_1.length l1_1) (hc1_1 : l1_1.length ≤ c1_1) (h : zone_Meet.f a0_0 l0_1 a1_0 l1_1 = some (r1, r2, r3, r4)) (h2_ : ErrAt 2 1 w) (h3_ : ErrAt 3 0 w) :
    Calls Tryd.prog 52 #[.agg #[.int .i64 a0_0, .slice A0_1 l0_1.length c0_1], .agg #[.int .i64 a1_0, .slice A1_1 l1_1.length c1_1]] w fun e w' => ∃ v1_ : Value, e = .returned (.tuple #[.agg #[.int .i64 r1, v1_], .bool r3, errW r4]) ∧ Kd.R k120 120 w' w.heap.size (fun _ => True) v1_ r2 ∧ Below w.heap.size w w' := by
  have e : meetR a0_0 (cels l0_1) a1_0 (cels l1_1) = (r1, r2, r3, r4) := by
    unfold zone_Meet.f at h
    unfold meetR
    cases hE : zTwo a0_0 (cels l0_1) a1_0 (cels l1_1) <;> (rw [hE] at h; exact Option.some.inj h)
  have q := zmeet_any A0_1 l0_1.length c0_1 a0_0 (cels l0_1) A1_1 l1_1.length c1_1 a1_0 (cels l1_1) w (rcel_of_C hr0_1) (rcel_of_C hr1_1) h2_ h3_
  rw [e] at q
  exact q
end Go.Proofs.Rcg
