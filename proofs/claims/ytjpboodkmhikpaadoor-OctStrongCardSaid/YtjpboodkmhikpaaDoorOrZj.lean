import Derived.Test.YtjpboodkmhikpaaDoorOrZn
/- Package zone: the join of two. -/
set_option linter.unusedVariables false
set_option linter.unusedSimpArgs false
namespace Go.Proofs.Rcg
open Go Go.RowKit Go.Proofs.Rcn Go.Proofs.YtjpboodkmhikpaaDoor.Z Go.Proofs.YtjpboodkmhikpaaDoorW.PrintWords

theorem RCel.still {w W : World} {q n : Nat} {L : List Cel} (h : RCel w (some ⟨q, 0, none⟩) n L) (hk : ∀ i u, w.cell? ⟨q, i, none⟩ = some u → W.cell? ⟨q, i, none⟩ = some u) : RCel W (some ⟨q, 0, none⟩) n L :=
  ⟨h.1, fun hn => by
    obtain ⟨g, o, e, hc⟩ := h.2 hn
    simp only [Option.some.injEq, Addr.mk.injEq, and_true] at e
    obtain ⟨rfl, rfl⟩ := e
    exact ⟨q, 0, rfl, fun j hj => ⟨hk _ _ (hc j hj).1, hk _ _ (hc j hj).2⟩⟩⟩
theorem RCel.set {w : World} {q n : Nat} {L : List Cel} (h : RCel w (some ⟨q, 0, none⟩) n L) {b : Nat} (hb : b ≠ q) (i : Nat) (u : Value) : RCel (w.setCell ⟨b, i, none⟩ u) (some ⟨q, 0, none⟩) n L :=
  RCel.still h fun j v e => (cell_two _ _ _ _ _ _ (by omega)).trans e
theorem rcel_at0 {w : World} {q n : Nat} {L : List Cel} (h : RCel w (some ⟨q, 0, none⟩) n L) {j : Nat} (hj : j < n) : w.cell? ⟨q, j * 2, none⟩ = some (.bool (cg L j).has) ∧ w.cell? ⟨q, j * 2 + 1, none⟩ = some (.int .i64 (cg L j).most) := by
  obtain ⟨g, o, e, h1, h2⟩ := rcel_at h hj
  simp only [Option.some.injEq, Addr.mk.injEq, and_true] at e
  obtain ⟨rfl, rfl⟩ := e
  simp only [Nat.zero_add] at h1 h2
  exact ⟨h1, h2⟩
def joinI (K : List Cel) (X : List Cel) (i : Nat) : List Cel := X.set i (joinC (cg X i) (cg K i))
/-- In the loop: what has been joined; the other one's row; the variable. -/
structure JL (w1 : World) (bx g n c : Nat) (N : Int) (gk : Nat) (K X : List Cel) (wr : World) : Prop where
  below : Below w1.heap.size w1 wr
  out : Cell2 wr bx (.int .i64 N) (.slice (some ⟨g, 0, none⟩) n c)
  row : ZRow wr w1.heap.size zC (.slice (some ⟨g, 0, none⟩) n c) X
  other : RCel wr (some ⟨gk, 0, none⟩) n K
  ln : n = X.length
section
variable {w1 wr : World} {bx g n c gk : Nat} {N : Int} {K X : List Cel}
theorem JL.drewN (h : JL w1 bx g n c N gk K X wr) (q : Nat) : JL w1 bx g n c N gk K X (wr.drewN q) :=
  ⟨Go.Proofs.Rcn.below_drewN h.below q, ⟨h.out.lt, h.out.c0, h.out.c1, h.out.f0, h.out.f1⟩, h.row, h.other, h.ln⟩
theorem JL.alloc (h : JL w1 bx g n c N gk K X wr) (o : Obj) : JL w1 bx g n c N gk K X (wr.alloc o) :=
  ⟨Go.Proofs.Rcn.below_alloc h.below o, h.out.alloc o, h.row.alloc o, h.other.below (Go.Proofs.Rcn.below_alloc (Below.refl _ _) o), h.ln⟩
theorem JL.put (h : JL w1 bx g n c N gk K X wr) (hg : w1.heap.size ≤ g) (hbo : bx ≠ g) (hgk : gk ≠ g) (k : Nat) (a : Bool) (m : Int) :
    JL w1 bx g n c N gk K (X.set k ⟨a, m⟩) ((wr.setCell ⟨g, k * 2, none⟩ (.bool a)).setCell ⟨g, k * 2 + 1, none⟩ (.int .i64 m)) :=
  ⟨Go.Proofs.Rcn.below_set (Go.Proofs.Rcn.below_set h.below hg _) hg _, (h.out.set (by omega) _ _).set (by omega) _ _, h.row.put h.ln k a m, RCel.set (RCel.set h.other (by omega) _ _) (by omega) _ _, by rw [List.length_set]; exact h.ln⟩
theorem JL.put1 (h : JL w1 bx g n c N gk K X wr) (hg : w1.heap.size ≤ g) (hbo : bx ≠ g) (hgk : gk ≠ g) (k : Nat) (m : Int) :
    JL w1 bx g n c N gk K (X.set k ⟨(cg X k).has, m⟩) (wr.setCell ⟨g, k * 2 + 1, none⟩ (.int .i64 m)) :=
  ⟨Go.Proofs.Rcn.below_set h.below hg _, h.out.set (by omega) _ _, h.row.put1 h.ln k m, RCel.set h.other (by omega) _ _, by rw [List.length_set]; exact h.ln⟩
end
def joinR (N : Int) (L : List Cel) (M : Int) (K : List Cel) : Int × List ZC × Option Int :=
  match zTwo N L M K with
  | some e => (0, [], some e)
  | none => match closeZ (N + 1).toNat L, closeZ (N + 1).toNat K with
    | none, none => (0, [], some 4)
    | none, some K => (N, zces K, none)
    | some C, none => (N, zces C, none)
    | some C, some K => (N, zces (joinL C K), none)
set_option maxRecDepth 100000 in
set_option maxHeartbeats 8000000 in
theorem zjoin_any [EA] (A : Option Addr) (n c : Nat) (N : Int) (L : List Cel) (A' : Option Addr) (n' c' : Nat) (M : Int) (K : List Cel) (w : World) (hz : RCel w A n L) (hz' : RCel w A' n' K) (h2 : ErrAt 2 1 w) (h3 : ErrAt 3 0 w) (h4 : ErrAt 4 3 w) :
    Calls Tryd.prog 46 #[.agg #[.int .i64 N, .slice A n c], .agg #[.int .i64 M, .slice A' n' c']] w (ZRet2 w (joinR N L M K)) := by
  have HL := Lib.hid hz.1
  have HL' := Lib.hid hz'.1
  have HZ := Lib.hid hz
  have HZ' := Lib.hid hz'
  have hv := fun W (h : Below w.heap.size w W) => ztwo_any A n c N L A' n' c' M K W (hz.below h) (hz'.below h) (h2.below h) (h3.below h)
  obtain ⟨R, hR⟩ : ∃ R, R = joinR N L M K := ⟨_, rfl⟩
  rw [← hR]
  have HE4 := Lib.hid h4
  have l4 := h4.lt
  clear hz hz' h2 h3 h4
  obtain ⟨w3, hw3⟩ : ∃ w3, w3 = ((w.alloc (.cells #[.int .i64 N, .slice A n c] 37)).alloc (.cells #[.int .i64 M, .slice A' n' c'] 37)).alloc (.cells #[.int .i64 0, .slice none 0 0] 37) := ⟨_, rfl⟩
  have H0 : Hid (Cell2 w3 w.heap.size (.int .i64 N) (.slice A n c)) := by show Cell2 _ _ _ _; rw [hw3]; exact ((Cell2.new w _ _ _).alloc _).alloc _
  have H1 : Hid (Cell2 w3 (w.heap.size + 1) (.int .i64 M) (.slice A' n' c')) := by
    have := (Cell2.new (w.alloc (.cells #[.int .i64 N, .slice A n c] 37)) (.int .i64 M) (.slice A' n' c') 37).alloc (.cells #[.int .i64 0, .slice none 0 0] 37)
    show Cell2 _ _ _ _
    rw [hw3]
    simpa using this
  have H2 : Hid (Cell2 w3 (w.heap.size + 2) (.int .i64 0) (.slice none 0 0)) := by
    have := Cell2.new ((w.alloc (.cells #[.int .i64 N, .slice A n c] 37)).alloc (.cells #[.int .i64 M, .slice A' n' c'] 37)) (.int .i64 0) (.slice none 0 0) 37
    show Cell2 _ _ _ _
    rw [hw3]
    simpa using this
  have HW : Hid (Below w.heap.size w w3) := by show Below _ _ _; rw [hw3]; exact Go.Proofs.Rcn.below_alloc (Go.Proofs.Rcn.below_alloc (Go.Proofs.Rcn.below_alloc (Below.refl _ _) _) _) _
  have HW3 := Lib.hid hw3
  cases hE : zTwo N L M K with
  | some er =>
    obtain rfl : R = (0, [], some er) := by rw [hR]; unfold joinR; rw [hE]
    rw [hE] at hv
    have HV := Lib.hid (hv w3 HW.out)
    clear hE hR hv
    subst hw3
    go_enter Tryd.func46, Tryd.ntmps46
    go_wp2_with fail
    refine HV.out.mono ?_
    rintro e w1 ⟨rfl, hb1⟩
    have HW1 := Lib.hid (below_then HW.out hb1)
    obtain ⟨rl, r0, r1, rf0, rf1⟩ := H2.out.below hb1
    clear hb1
    simp only [errW_some]
    go_wp2
    refine bodyPost_ret (v := .tuple #[.agg #[.int .i64 0, .slice none 0 0], errW (some er)]) (by simp [results, Tryd.results46, go_sem, rl, r0, r1, rf0, rf1, errW_some]) rfl (ZRet2.no ?_)
    repeat (first | exact HW1.out | refine Go.Proofs.Rcn.below_set ?_ (by first | (simp; done) | (simp; omega)) _)
  | none =>
    obtain ⟨e1, e2, rfl⟩ := zTwo_none hE
    obtain ⟨n1, hn1, h11, h15, hlen, _, _⟩ := zErr_none e1
    obtain ⟨n2, hn2, _, _, hlen', _, _⟩ := zErr_none e2
    obtain rfl : n2 = n1 := by omega
    rw [hE] at hv
    have HV := Lib.hid (hv w3 HW.out)
    have en : (N + 1).toNat = n2 := by omega
    unfold joinR at hR
    rw [hE] at hR
    simp only [en] at hR
    have HN := Lib.hid hn1
    have hn : n = n2 * n2 := by rw [← HL.out]; exact hlen
    have hn' : n' = n2 * n2 := by rw [← HL'.out]; exact hlen'
    have hnn : 1 ≤ n ∧ n ≤ 25 := by rw [hn]; exact ⟨Nat.mul_le_mul h11 h11, Nat.mul_le_mul h15 h15⟩
    obtain rfl : n' = n := by rw [hn', hn]
    have Hn := Lib.hid hn
    obtain ⟨CL, hCL⟩ : ∃ C, closeZ n2 L = C := ⟨_, rfl⟩
    obtain ⟨CK, hCK⟩ : ∃ C, closeZ n2 K = C := ⟨_, rfl⟩
    rw [hCL, hCK] at hR
    have HR := Lib.hid hR
    have HCL := Lib.hid hCL
    have HCK := Lib.hid hCK
    clear hE hv e1 e2 hn1 hn2 hlen hlen' en hR hn hn' hCL hCK
    subst hw3
    go_enter Tryd.func46, Tryd.ntmps46
    go_wp2_with fail
    refine HV.out.mono ?_
    rintro e w1 ⟨rfl, hb1⟩
    have HW1 := Lib.hid (below_then HW.out hb1)
    have B0 := Lib.hid (H0.out.below hb1)
    have B1 := Lib.hid (H1.out.below hb1)
    have B2 := Lib.hid (H2.out.below hb1)
    clear hb1
    obtain ⟨bl, b0, b1, bf0, bf1⟩ := B0.out
    simp only [errW_none]
    go_wp2_with fail
    refine (zclose_any A n2 n' c N L _ HN.out h11 h15 Hn.out (HZ.out.below HW1.out) HCL.out).mono ?_
    rintro e w2 ⟨zL, AL, nL, cL, okL, rfl, hL2, hb2⟩
    have HW2 := Lib.hid (below_then HW1.out hb2)
    have D1 := Lib.hid (B1.out.below hb2)
    have D2 := Lib.hid (B2.out.below hb2)
    have HL2 := Lib.hid hL2
    have HB2 := Lib.hid hb2
    clear hb2 hL2 bl b0 b1 bf0 bf1
    obtain ⟨bl, b0, b1, bf0, bf1⟩ := D1.out
    have HX2 : Hid (Below w.heap.size w (w2.alloc (.cells #[.int .i64 zL, .slice AL nL cL] 37))) := Go.Proofs.Rcn.below_alloc HW2.out _
    go_wp2_with fail
    refine (zclose_any A' n2 n' c' N K _ HN.out h11 h15 Hn.out (HZ'.out.below HX2.out) HCK.out).mono ?_
    rintro e w4 ⟨zK, AK, nK, cK, okK, rfl, hK4, hb4⟩
    have HW4 := Lib.hid (below_then HX2.out hb4)
    have F2 := Lib.hid ((D2.out.alloc _).below hb4)
    have FL := Lib.hid ((Cell2.new w2 (.int .i64 zL) (.slice AL nL cL) 37).below hb4)
    have HK4 := Lib.hid hK4
    clear bl b0 b1 bf0 bf1
    have HB4 := Lib.hid hb4
    clear hb4 hK4
    have hw24 : w2.heap.size < w4.heap.size := FL.out.lt
    have hw4s : w.heap.size + 2 < w4.heap.size := F2.out.lt
    have hww : w.heap.size + 2 < w2.heap.size := D2.out.lt
    have hw1r : w.heap.size + 2 < w1.heap.size := B2.out.lt
    have HX4 := Lib.hid (fun o => Go.Proofs.Rcn.below_alloc HW4.out o)
    cases CL with
    | none =>
      obtain ⟨rfl, rfl, rfl, rfl, rfl⟩ := HL2.out
      cases CK with
      | none =>
        obtain ⟨rfl, rfl, rfl, rfl, rfl⟩ := HK4.out
        obtain rfl : R = (0, [], some 4) := HR.out
        obtain ⟨rl, r0, r1, rf0, rf1⟩ := F2.out
        have e4 := (HE4.out.below HW4.out).cell
        have e4l := (HE4.out.below HW4.out).lt
        go_wp2_with fail
        go_region
        all_goals (try go_wp2)
        all_goals
          refine bodyPost_ret (v := .tuple #[.agg #[.int .i64 0, .slice none 0 0], errW (some 4)]) (by simp [results, Tryd.results46, go_sem, rl, r0, r1, rf0, rf1, errW_some]) rfl (ZRet2.no ?_)
          repeat (first | exact HW4.out | refine Go.Proofs.Rcn.below_set ?_ (by first | (simp; done) | (simp; omega)) _ | refine Go.Proofs.Rcn.below_drew ?_ | refine Go.Proofs.Rcn.below_alloc ?_ _)
      | some CK =>
        obtain ⟨rfl, rfl, rfl, hr5⟩ := HK4.out
        obtain rfl : R = (zK, zces CK, none) := HR.out
        obtain ⟨rl, r0, r1, rf0, rf1⟩ := F2.out
        have HR5 := Lib.hid hr5
        clear hr5
        go_wp2
        refine bodyPost_ret (v := .tuple #[.agg #[.int .i64 zK, .slice AK nK cK], errW none]) (by simp [results, Tryd.results46, go_sem, rl, r0, r1, rf0, rf1, errW_none]) rfl ⟨.slice AK nK cK, rfl, ?_, ?_⟩
        · have k1 := ownsRow_setCell_below HR5.out (a := ⟨w.heap.size + 1 + 1, 0, none⟩) (by simp <;> omega) (.int .i64 zK)
          have k2 := ownsRow_setCell_below k1 (a := ⟨w.heap.size + 1 + 1, 1, none⟩) (by simp <;> omega) (.slice AK nK cK)
          exact R_of_zrow (ZRow.low (ZRow.alloc k2 _) (by first | (simp; done) | (simp; omega) | omega))
        · repeat (first | exact HW4.out | refine Go.Proofs.Rcn.below_alloc ?_ _ | refine Go.Proofs.Rcn.below_set ?_ (by first | (simp; done) | (simp; omega)) _)
    | some CL =>
      obtain ⟨rfl, rfl, rfl, hrL⟩ := HL2.out
      have HRL := Lib.hid ((hrL.alloc (.cells #[.int .i64 zL, .slice AL nL cL] 37)).below HB4.out)
      have hlenL := hrL.rcel.1.1
      have hgL := hrL.form (by rw [hlenL]; omega)
      clear hrL
      cases CK with
      | none =>
        obtain ⟨rfl, rfl, rfl, rfl, rfl⟩ := HK4.out
        obtain rfl : R = (zL, zces CL, none) := HR.out
        obtain ⟨kl, k0, k1, kf0, kf1⟩ := FL.out
        obtain ⟨rl, r0, r1, rf0, rf1⟩ := F2.out
        clear hgL
        go_wp2
        refine bodyPost_ret (v := .tuple #[.agg #[.int .i64 zL, .slice AL nL cL], errW none]) (by simp [results, Tryd.results46, go_sem, rl, r0, r1, rf0, rf1, errW_none]) rfl ⟨.slice AL nL cL, rfl, ?_, ?_⟩
        · have k1 := ownsRow_setCell_below HRL.out (a := ⟨w.heap.size + 1 + 1, 0, none⟩) (by simp <;> omega) (.int .i64 zL)
          have k2 := ownsRow_setCell_below k1 (a := ⟨w.heap.size + 1 + 1, 1, none⟩) (by simp <;> omega) (.slice AL nL cL)
          exact R_of_zrow (ZRow.low (ZRow.alloc k2 _) (by first | (simp; done) | (simp; omega) | omega))
        · repeat (first | exact HW4.out | refine Go.Proofs.Rcn.below_alloc ?_ _ | refine Go.Proofs.Rcn.below_set ?_ (by first | (simp; done) | (simp; omega)) _)
      | some CK =>
        obtain ⟨rfl, rfl, rfl, hrK⟩ := HK4.out
        obtain rfl : R = (zK, zces (joinL CL CK), none) := HR.out
        obtain ⟨g, cap, hv5, hg1, hg2⟩ := hgL
        simp only [Value.slice.injEq] at hv5
        obtain ⟨rfl, -, rfl⟩ := hv5
        have hlenK := hrK.rcel.1.1
        obtain ⟨gk, capk, hv6, hk1, hk2⟩ := hrK.form (by rw [hlenK]; omega)
        simp only [Value.slice.injEq] at hv6
        obtain ⟨rfl, -, rfl⟩ := hv6
        have hgk : gk ≠ g := by simp at hk1; omega
        have hbo : w2.heap.size ≠ g := by omega
        have HLL := Lib.hid hlenL
        have HLK := Lib.hid hlenK
        have X2 := Lib.hid F2.out
        have HS : Hid (JL w1 w2.heap.size g nK cL zK gk CK CL (w4.alloc (.cells #[.int .i64 zK, .slice (some ⟨gk, 0, none⟩) nK cK] 37))) :=
          ⟨Go.Proofs.Rcn.below_alloc (below_then (Go.Proofs.Rcn.below_alloc HB2.out _) HB4.out) _, FL.out.alloc _, HRL.out.alloc _, (hrK.alloc _).rcel.1, hlenL.symm⟩
        clear hrK hlenL hlenK
        go_wp2
        go_loopw [51] (fun i wr => ∃ q : Nat, q ≤ nK ∧ i = .int .i64 q ∧ Hid (JL w1 w2.heap.size g nK cL zK gk CK (rep (joinI CK) q CL) wr)) (fun i _ => nK - (intOf i).toNat)
        case atStart => exact ⟨0, Nat.zero_le _, rfl, HS⟩
        case round =>
          obtain ⟨q, hq, rfl, HV⟩ := hrel
          clear HS
          obtain ⟨ol, o0, o1, of0, of1⟩ := HV.out.out
          by_cases hlt : q < nK
          · have hltz : (q : Int) < (nK : Int) := by omega
            have HSt : Hid (rep (joinI CK) (q + 1) CL = (rep (joinI CK) q CL).set q (joinC (cg (rep (joinI CK) q CL) q) (cg CK q))) := rfl
            have HA := HV.out.alloc (.cells #[.bool (cg CK q).has, .int .i64 (cg CK q).most] 42)
            have c0 := HA.row.at0 HA.ln hlt
            have cm := HA.row.at1 HA.ln hlt
            have fr0 := HA.row.free HA.ln (q * 2)
            have fr1 := HA.row.free HA.ln (q * 2 + 1)
            clear HA
            have HPut := Lib.hid (fun nq o a m => ((HV.out.alloc o).drewN nq).put hg1 hbo hgk q a m)
            have HPut1 := Lib.hid (fun nq o m => ((HV.out.alloc o).drewN nq).put1 hg1 hbo hgk q m)
            have HNo := Lib.hid (fun nq o => (HV.out.alloc o).drewN nq)
            have HSelf := Lib.hid (set_self (rep (joinI CK) q CL) q)
            obtain ⟨y0, y1⟩ := rcel_at0 HV.out.other hlt
            generalize rep (joinI CK) q CL = X at HV HSt c0 cm HPut HPut1 HNo HSelf fr0 fr1
            generalize cg X q = x at c0 cm HSt HSelf HPut1
            generalize cg CK q = y at y0 y1 HSt c0 cm fr0 fr1
            obtain ⟨xh, xm⟩ := x
            obtain ⟨yh, ym⟩ := y
            simp only at c0 cm y0 y1
            try simp only at fr0 fr1
            try simp only at HPut1
            cases yh with
            | false =>
              have HE : Hid (joinC ⟨xh, xm⟩ ⟨false, ym⟩ = ⟨false, 0⟩) := rfl
              go_wp2_with fail
              exact ⟨⟨q + 1, by omega, by go_num, by show JL _ _ _ _ _ _ _ _ _ _; rw [HSt.out, HE.out]; exact HPut.out 0 _ false 0⟩, by simp [intOf]; omega⟩
            | true =>
              cases xh with
              | false =>
                have HE : Hid (joinC ⟨false, xm⟩ ⟨true, ym⟩ = ⟨false, xm⟩) := rfl
                go_wp2_with fail
                exact ⟨⟨q + 1, by omega, by go_num, by show JL _ _ _ _ _ _ _ _ _ _; rw [HSt.out, HE.out, HSelf.out]; exact HNo.out 0 _⟩, by simp [intOf]; omega⟩
              | true =>
                have HE : Hid (joinC ⟨true, xm⟩ ⟨true, ym⟩ = ⟨true, max xm ym⟩) := rfl
                go_wp2_with fail
                go_region
                all_goals (try go_wp2)
                refine ⟨⟨q + 1, by omega, by go_num, ?_⟩, by simp [intOf]; omega⟩
                show JL _ _ _ _ _ _ _ _ _ _
                have hmx : (if xm < ym then ym else xm) = max xm ym := by split <;> omega
                rw [hmx, HSt.out, HE.out]
                exact (HPut1.out 0 _ (max xm ym)).drewN 1
          · obtain rfl : q = nK := by omega
            have HRow : Hid (ZRow wr w1.heap.size zC (.slice (some ⟨g, 0, none⟩) q cL) (joinL CL CK)) := by
              have := HV.out.row
              show ZRow _ _ _ _ _
              rwa [show rep (joinI CK) q CL = joinL CL CK by rw [← HLK.out]; rfl] at this
            have HB6 : Hid (Below w.heap.size w wr) := below_then HW1.out HV.out.below
            obtain ⟨rl, r0, r1, rf0, rf1⟩ := B2.out.below HV.out.below
            clear HV
            go_wp2
            refine bodyPost_ret (v := .tuple #[.agg #[.int .i64 zK, .slice (some ⟨g, 0, none⟩) q cL], errW none]) (by simp [results, Tryd.results46, go_sem, rl, r0, r1, rf0, rf1, errW_none]) rfl ⟨.slice (some ⟨g, 0, none⟩) q cL, rfl, ?_, ?_⟩
            · have k1 := ownsRow_setCell_below HRow.out (a := ⟨w.heap.size + 1 + 1, 0, none⟩) (by simp <;> omega) (.int .i64 zK)
              have k2 := ownsRow_setCell_below k1 (a := ⟨w.heap.size + 1 + 1, 1, none⟩) (by simp <;> omega) (.slice (some ⟨g, 0, none⟩) q cL)
              exact R_of_zrow (ZRow.low k2 (by omega))
            · repeat (first | exact HB6.out | refine Go.Proofs.Rcn.below_set ?_ (by first | (simp; done) | (simp; omega)) _)
theorem zone_Join.calls [EA] (a0_0 : Int) (A0_1 : Option Addr) (c0_1 : Nat) (l0_1 : List ZC) (a1_0 : Int) (A1_1 : Option Addr) (c1_1 : Nat) (l1_1 : List ZC) (r1 : Int) (r2 : List ZC) (r3 : Option Int) (w : World) (hr0_1 : Kd.C k42 w A0_1 l0_1.length l0_1) (hc0_1 : l0_1.length ≤ c0_1) (hr1_1 : Kd.C k42 w A1_1 l1_1.length l1_1) (hc1_1 : l1_1.length ≤ c1_1) (h : zone_Join.f a0_0 l0_1 a1_0 l1_1 = some (r1, r2, r3)) (h2_ : ErrAt 2 1 w) (h3_ : ErrAt 3 0 w) (h4_ : ErrAt 4 3 w) :
    Calls Tryd.prog 46 #[.agg #[.int .i64 a0_0, .slice A0_1 l0_1.length c0_1], .agg #[.int .i64 a1_0, .slice A1_1 l1_1.length c1_1]] w fun e w' => ∃ v1_ : Value, e = .returned (.tuple #[.agg #[.int .i64 r1, v1_], errW r3]) ∧ Kd.R k42 42 w' w.heap.size (fun _ => True) v1_ r2 ∧ Below w.heap.size w w' := by
  have e : joinR a0_0 (cels l0_1) a1_0 (cels l1_1) = (r1, r2, r3) := by
    unfold zone_Join.f at h
    unfold joinR
    cases hE : zTwo a0_0 (cels l0_1) a1_0 (cels l1_1) with
    | some er => rw [hE] at h; exact Option.some.inj h
    | none =>
      rw [hE] at h
      simp only at h ⊢
      cases h1 : closeZ (a0_0 + 1).toNat (cels l0_1) <;> cases h2 : closeZ (a0_0 + 1).toNat (cels l1_1) <;> rw [h1, h2] at h <;> simp only at h ⊢ <;> first | exact Option.some.inj h | (rw [zces_cels]; exact Option.some.inj h)
  have q := zjoin_any A0_1 l0_1.length c0_1 a0_0 (cels l0_1) A1_1 l1_1.length c1_1 a1_0 (cels l1_1) w (rcel_of_C hr0_1) (rcel_of_C hr1_1) h2_ h3_ h4_
  rw [e] at q
  exact q
end Go.Proofs.Rcg
