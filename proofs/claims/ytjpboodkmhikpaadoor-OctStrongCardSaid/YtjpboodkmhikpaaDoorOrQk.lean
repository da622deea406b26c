import Derived.Test.YtjpboodkmhikpaaDoorOrQc
/- Package octagon: two; Widen. -/
set_option linter.unusedVariables false
set_option linter.unusedSimpArgs false
namespace Go.Proofs.Rco
open Go Go.RowKit Go.Proofs.Rcn Go.Proofs.Rcg Go.Proofs.YtjpboodkmhikpaaDoor.Z Go.Proofs.YtjpboodkmhikpaaDoorW.PrintWords
theorem oErr_none {N : Int} {L : List Cel} (h : oErr N L = none) : ∃ n : Nat, 2 * N = n ∧ n ≤ 8 ∧ L.length = n * n ∧ (∀ j, j < L.length → bad (cg L j) = false) ∧ (∀ j, j < L.length → zfar (cg L j).most = false) ∧ ∀ a, a < n → ∀ b, b < n → cg L (a * n + b) = cg L (op b * n + op a) := by
  rw [oErr_eq] at h
  by_cases h1 : N < 0 ∨ N > 4
  · rw [if_pos h1] at h; cases h
  rw [if_neg h1] at h
  by_cases h2 : (L.length : Int) ≠ 4 * N * N
  · rw [if_pos h2] at h; cases h
  rw [if_neg h2] at h
  by_cases h3 : L.any bad = true
  · rw [if_pos h3] at h; cases h
  rw [if_neg h3] at h
  by_cases h4 : (L.any fun c => zfar c.most) = true
  · rw [if_pos h4] at h; cases h
  rw [if_neg h4] at h
  by_cases h5 : cohB (2 * N).toNat L = true
  · obtain ⟨n, hn⟩ : ∃ n : Nat, 2 * N = n := ⟨(2 * N).toNat, by omega⟩
    rw [show (2 * N).toNat = n by omega] at h5
    exact ⟨n, hn, by omega, len_sq hn (Classical.not_not.1 h2), fun j hj => Bool.eq_false_iff.2 fun q => h3 (anyBad_true hj q), fun j hj => Bool.eq_false_iff.2 fun q => h4 ((anyFar L).2 ⟨j, hj, q⟩), cohB_iff.1 h5⟩
  · rw [if_neg h5] at h; cases h
set_option maxRecDepth 100000 in
set_option maxHeartbeats 2000000 in
theorem ztwo_any [EA] (A : Option Addr) (n c : Nat) (N : Int) (L : List Cel) (A' : Option Addr) (n' c' : Nat) (M : Int) (K : List Cel) (w : World) (hz : RCel w A n L) (hz' : RCel w A' n' K) (h2 : ErrAt 2 1 w) (h3 : ErrAt 3 0 w) (h7 : ErrAt 7 4 w) :
    Calls Tryd.prog 93 #[.agg #[.int .i64 N, .slice A n c], .agg #[.int .i64 M, .slice A' n' c']] w (VPost (oTwo N L M K) w) := by
  have HE2 := Lib.hid h2
  have HE3 := Lib.hid h3
  have hv := fun W (h : Below w.heap.size w W) => zvalid_any A n c N L W (hz.below h) (h2.below h) (h3.below h) (h7.below h)
  have hv' := fun W (h : Below w.heap.size w W) => zvalid_any A' n' c' M K W (hz'.below h) (h2.below h) (h3.below h) (h7.below h)
  obtain ⟨R, hR⟩ : ∃ R, R = oTwo N L M K := ⟨_, rfl⟩
  rw [← hR]
  have l2 := h2.lt
  have l3 := h3.lt
  clear hz hz' h2 h3 h7
  have H0 : Hid (Cell2 ((w.alloc (.cells #[.int .i64 N, .slice A n c] 82)).alloc (.cells #[.int .i64 M, .slice A' n' c'] 82)) w.heap.size (.int .i64 N) (.slice A n c)) := (Cell2.new w _ _ _).alloc _
  have H1 : Hid (Cell2 ((w.alloc (.cells #[.int .i64 N, .slice A n c] 82)).alloc (.cells #[.int .i64 M, .slice A' n' c'] 82)) (w.heap.size + 1) (.int .i64 M) (.slice A' n' c')) := by
    have := Cell2.new (w.alloc (.cells #[.int .i64 N, .slice A n c] 82)) (.int .i64 M) (.slice A' n' c') 82
    show Cell2 _ _ _ _
    simpa using this
  have HW : Hid (Below w.heap.size w ((w.alloc (.cells #[.int .i64 N, .slice A n c] 82)).alloc (.cells #[.int .i64 M, .slice A' n' c'] 82))) := Go.Proofs.Rcn.below_alloc (Go.Proofs.Rcn.below_alloc (Below.refl _ _) _) _
  unfold oTwo at hR
  cases hE : oErr N L with
  | some er =>
    rw [hE] at hv hR
    obtain rfl : R = some er := hR
    have HV := Lib.hid hv
    clear hE hv hv'
    go_enter Tryd.func93, Tryd.ntmps93
    go_wp2_with fail
    refine (HV.out _ HW.out).mono ?_
    rintro e w1 ⟨rfl, hb1⟩
    have HW1 := Lib.hid (below_then HW.out hb1)
    clear hb1
    simp only [errW_some]
    go_wp2
    go_ret
    exact ⟨rfl, HW1.out⟩
  | none =>
    rw [hE] at hv hR
    have HV := Lib.hid hv
    clear hE hv
    cases hE' : oErr M K with
    | some er =>
      rw [hE'] at hv' hR
      obtain rfl : R = some er := hR
      have HV' := Lib.hid hv'
      clear hE' hv'
      go_enter Tryd.func93, Tryd.ntmps93
      go_wp2_with fail
      refine (HV.out _ HW.out).mono ?_
      rintro e w1 ⟨rfl, hb1⟩
      have HW1 := Lib.hid (below_then HW.out hb1)
      obtain ⟨bl, b0, b1, bf0, bf1⟩ := H1.out.below hb1
      clear hb1
      simp only [errW_none]
      go_wp2_with fail
      refine (HV'.out _ HW1.out).mono ?_
      rintro e w2 ⟨rfl, hb2⟩
      have HW2 := Lib.hid (below_then HW1.out hb2)
      clear hb2
      simp only [errW_some]
      go_wp2
      go_ret
      exact ⟨rfl, HW2.out⟩
    | none =>
      rw [hE'] at hv' hR
      have HV' := Lib.hid hv'
      clear hE' hv'
      by_cases hN : N = M
      · subst hN
        simp only [if_true] at hR
        subst hR
        go_enter Tryd.func93, Tryd.ntmps93
        go_wp2_with fail
        refine (HV.out _ HW.out).mono ?_
        rintro e w1 ⟨rfl, hb1⟩
        have HW1 := Lib.hid (below_then HW.out hb1)
        have K0 := Lib.hid (H0.out.below hb1)
        have K1 := Lib.hid (H1.out.below hb1)
        obtain ⟨bl, b0, b1, bf0, bf1⟩ := K1.out
        clear hb1
        simp only [errW_none]
        go_wp2_with fail
        refine (HV'.out _ HW1.out).mono ?_
        rintro e w2 ⟨rfl, hb2⟩
        have HW2 := Lib.hid (below_then HW1.out hb2)
        clear bl b0 b1 bf0 bf1
        obtain ⟨al, a0, a1, af0, af1⟩ := K0.out.below hb2
        obtain ⟨bl, b0, b1, bf0, bf1⟩ := K1.out.below hb2
        clear hb2
        simp only [errW_none]
        go_wp2
        go_ret
        exact ⟨rfl, HW2.out⟩
      · have hN1 : (N != M) = true := by simpa using hN
        simp only [if_neg hN] at hR
        subst hR
        clear hN
        go_enter Tryd.func93, Tryd.ntmps93
        go_wp2_with fail
        refine (HV.out _ HW.out).mono ?_
        rintro e w1 ⟨rfl, hb1⟩
        have HW1 := Lib.hid (below_then HW.out hb1)
        have K0 := Lib.hid (H0.out.below hb1)
        have K1 := Lib.hid (H1.out.below hb1)
        obtain ⟨bl, b0, b1, bf0, bf1⟩ := K1.out
        clear hb1
        simp only [errW_none]
        go_wp2_with fail
        refine (HV'.out _ HW1.out).mono ?_
        rintro e w2 ⟨rfl, hb2⟩
        have HW2 := Lib.hid (below_then HW1.out hb2)
        clear bl b0 b1 bf0 bf1
        obtain ⟨al, a0, a1, af0, af1⟩ := K0.out.below hb2
        obtain ⟨bl, b0, b1, bf0, bf1⟩ := K1.out.below hb2
        have e3 := (HE3.out.below HW2.out).cell
        have e3l := (HE3.out.below HW2.out).lt
        clear hb2
        simp only [errW_none]
        go_wp2
        go_ret
        exact ⟨rfl, HW2.out⟩
/-- What comes back: a zone, a yes or no, an error. -/
def ZRet [EA] (w : World) (R : Int × List OC × Bool × Option Int) (e : Ending) (w' : World) : Prop :=
  ∃ v : Value, e = .returned (.tuple #[.agg #[.int .i64 R.1, v], .bool R.2.2.1, errW R.2.2.2]) ∧ Kd.R k95 95 w' w.heap.size (fun _ => True) v R.2.1 ∧ Below w.heap.size w w'
theorem ZRet.no [EA] {w w' : World} {er : Option Int} (hb : Below w.heap.size w w') : ZRet w (0, [], false, er) (.returned (.tuple #[.agg #[.int .i64 0, .slice none 0 0], .bool false, errW er])) w' := ⟨_, rfl, R_nilZ _ _, hb⟩

/-- What comes back: a zone, an error. -/
def ZRet2 [EA] (w : World) (R : Int × List OC × Option Int) (e : Ending) (w' : World) : Prop :=
  ∃ v : Value, e = .returned (.tuple #[.agg #[.int .i64 R.1, v], errW R.2.2]) ∧ Kd.R k95 95 w' w.heap.size (fun _ => True) v R.2.1 ∧ Below w.heap.size w w'
theorem ZRet2.no [EA] {w w' : World} {er : Option Int} (hb : Below w.heap.size w w') : ZRet2 w (0, [], er) (.returned (.tuple #[.agg #[.int .i64 0, .slice none 0 0], errW er])) w' := ⟨_, rfl, R_nilZ _ _, hb⟩
/-- What a closing comes to: the value, and whose row it is. -/
def shutV (N : Int) (n : Nat) (w1 : World) (b : Nat) (C : Option (List Cel)) (z : Int) (Az : Option Addr) (nz cz : Nat) (ok : Bool) : Prop :=
  match C with
  | none => z = 0 ∧ Az = none ∧ nz = 0 ∧ cz = 0 ∧ ok = false
  | some C => z = N ∧ nz = n ∧ ok = true ∧ ZRow w1 b oC (.slice Az nz cz) C
theorem zclose_any (A : Option Addr) (n1 n c : Nat) (N : Int) (L : List Cel) (w : World) (hN : 2 * N = n1) (h5 : n1 ≤ 8) (hl : n = n1 * n1) (hz : RCel w A n L) {C : Option (List Cel)} (hC : closeO n1 L = C) :
    Calls Tryd.prog 94 #[.agg #[.int .i64 N, .slice A n c]] w fun e w' => ∃ z Az nz cz ok, e = .returned (.tuple #[.agg #[.int .i64 z, .slice Az nz cz], .bool ok]) ∧ shutV N n w' w.heap.size C z Az nz cz ok ∧ Below w.heap.size w w' := by
  subst hC
  refine (close_any A n1 n c N L w hN h5 hl hz).mono ?_
  rintro e w' ⟨hb, hp⟩
  cases h : closeO n1 L with
  | none => rw [h] at hp; exact ⟨_, _, _, _, _, hp, ⟨rfl, rfl, rfl, rfl, rfl⟩, hb⟩
  | some C => rw [h] at hp; obtain ⟨A', c', rfl, hr⟩ := hp; exact ⟨_, _, _, _, _, rfl, ⟨rfl, rfl, rfl, hr⟩, hb⟩

def widenI (K : List Cel) (X : List Cel) (i : Nat) : List Cel := X.set i (widenC (cg X i) (cg K i))
/-- In the loop: what has been widened; the other one's row; the variables. -/
structure WL (w5 : World) (by_ bo g n c ca : Nat) (N : Int) (Ay : Option Addr) (cy : Nat) (K X : List Cel) (br : Nat) (wr : World) : Prop where
  below : Below w5.heap.size w5 wr
  out : Cell2 wr bo (.int .i64 N) (.slice (some ⟨g, 0, none⟩) n c)
  row : ZRow wr w5.heap.size oC (.slice (some ⟨g, 0, none⟩) n c) X
  ln : n = X.length
theorem WL.drewN {w5 : World} {by_ bo g n c ca : Nat} {N : Int} {Ay : Option Addr} {cy : Nat} {K X : List Cel} {br : Nat} {wr : World} (h : WL w5 by_ bo g n c ca N Ay cy K X br wr) (q : Nat) : WL w5 by_ bo g n c ca N Ay cy K X br (wr.drewN q) :=
  ⟨Go.Proofs.Rcn.below_drewN h.below q, ⟨h.out.lt, h.out.c0, h.out.c1, h.out.f0, h.out.f1⟩, h.row, h.ln⟩
theorem WL.put {w5 : World} {by_ bo g n c ca : Nat} {N : Int} {Ay : Option Addr} {cy : Nat} {K X : List Cel} {br : Nat} {wr : World} (h : WL w5 by_ bo g n c ca N Ay cy K X br wr) (hg : w5.heap.size ≤ g) (hbo : bo ≠ g) (k : Nat) (a : Bool) (m : Int) :
    WL w5 by_ bo g n c ca N Ay cy K (X.set k ⟨a, m⟩) br ((wr.setCell ⟨g, k * 2, none⟩ (.bool a)).setCell ⟨g, k * 2 + 1, none⟩ (.int .i64 m)) :=
  ⟨Go.Proofs.Rcn.below_set (Go.Proofs.Rcn.below_set h.below hg _) hg _, (h.out.set (by omega) _ _).set (by omega) _ _, h.row.put h.ln k a m, by rw [List.length_set]; exact h.ln⟩
theorem rcel_at {w : World} {A : Option Addr} {n : Nat} {L : List Cel} (h : RCel w A n L) {j : Nat} (hj : j < n) : ∃ g o, A = some ⟨g, o, none⟩ ∧ w.cell? ⟨g, o + j * 2, none⟩ = some (.bool (cg L j).has) ∧ w.cell? ⟨g, o + j * 2 + 1, none⟩ = some (.int .i64 (cg L j).most) := by
  obtain ⟨g, o, e, hc⟩ := h.2 (by omega)
  exact ⟨g, o, e, (hc j hj).1, (hc j hj).2⟩

def widenR (N : Int) (L : List Cel) (M : Int) (K : List Cel) : Int × List OC × Option Int :=
  match oTwo N L M K with
  | some e => (0, [], some e)
  | none => match closeO (2 * N).toNat L, closeO (2 * N).toNat K with
    | none, none => (N, oces L, none)
    | none, some K => (N, oces K, none)
    | some _, none => (N, oces L, none)
    | some _, some K => (N, oces (widenL L K), none)
theorem zTwo_none {N M : Int} {L K : List Cel} (h : oTwo N L M K = none) : oErr N L = none ∧ oErr M K = none ∧ N = M := by
  unfold oTwo at h
  cases h1 : oErr N L with
  | some e => rw [h1] at h; cases h
  | none =>
    rw [h1] at h
    cases h2 : oErr M K with
    | some e => rw [h2] at h; cases h
    | none =>
      rw [h2] at h
      by_cases h3 : N = M
      · exact ⟨rfl, rfl, h3⟩
      · simp only [if_neg h3] at h; cases h

set_option maxRecDepth 100000 in
set_option maxHeartbeats 8000000 in
theorem zwiden_any [EA] (A : Option Addr) (n c : Nat) (N : Int) (L : List Cel) (A' : Option Addr) (n' c' : Nat) (M : Int) (K : List Cel) (w : World) (hz : RCel w A n L) (hz' : RCel w A' n' K) (h2 : ErrAt 2 1 w) (h3 : ErrAt 3 0 w) (h7 : ErrAt 7 4 w) :
    Calls Tryd.prog 50 #[.agg #[.int .i64 N, .slice A n c], .agg #[.int .i64 M, .slice A' n' c']] w (ZRet2 w (widenR N L M K)) := by
  have HL := Lib.hid hz.1
  have HL' := Lib.hid hz'.1
  have HZ := Lib.hid hz
  have HZ' := Lib.hid hz'
  have hv := fun W (h : Below w.heap.size w W) => ztwo_any A n c N L A' n' c' M K W (hz.below h) (hz'.below h) (h2.below h) (h3.below h) (h7.below h)
  obtain ⟨R, hR⟩ : ∃ R, R = widenR N L M K := ⟨_, rfl⟩
  rw [← hR]
  clear hz hz' h2 h3 h7
  obtain ⟨w3, hw3⟩ : ∃ w3, w3 = ((w.alloc (.cells #[.int .i64 N, .slice A n c] 82)).alloc (.cells #[.int .i64 M, .slice A' n' c'] 82)).alloc (.cells #[.int .i64 0, .slice none 0 0] 82) := ⟨_, rfl⟩
  have H0 : Hid (Cell2 w3 w.heap.size (.int .i64 N) (.slice A n c)) := by show Cell2 _ _ _ _; rw [hw3]; exact ((Cell2.new w _ _ _).alloc _).alloc _
  have H1 : Hid (Cell2 w3 (w.heap.size + 1) (.int .i64 M) (.slice A' n' c')) := by
    have := (Cell2.new (w.alloc (.cells #[.int .i64 N, .slice A n c] 82)) (.int .i64 M) (.slice A' n' c') 82).alloc (.cells #[.int .i64 0, .slice none 0 0] 82)
    show Cell2 _ _ _ _
    rw [hw3]
    simpa using this
  have H2 : Hid (Cell2 w3 (w.heap.size + 2) (.int .i64 0) (.slice none 0 0)) := by
    have := Cell2.new ((w.alloc (.cells #[.int .i64 N, .slice A n c] 82)).alloc (.cells #[.int .i64 M, .slice A' n' c'] 82)) (.int .i64 0) (.slice none 0 0) 82
    show Cell2 _ _ _ _
    rw [hw3]
    simpa using this
  have HW : Hid (Below w.heap.size w w3) := by show Below _ _ _; rw [hw3]; exact Go.Proofs.Rcn.below_alloc (Go.Proofs.Rcn.below_alloc (Go.Proofs.Rcn.below_alloc (Below.refl _ _) _) _) _
  have HW3 := Lib.hid hw3
  cases hE : oTwo N L M K with
  | some er =>
    obtain rfl : R = (0, [], some er) := by rw [hR]; unfold widenR; rw [hE]
    rw [hE] at hv
    have HV := Lib.hid (hv w3 HW.out)
    clear hE hR hv
    subst hw3
    go_enter Tryd.func50, Tryd.ntmps50
    go_wp2_with fail
    refine HV.out.mono ?_
    rintro e w1 ⟨rfl, hb1⟩
    have HW1 := Lib.hid (below_then HW.out hb1)
    obtain ⟨rl, r0, r1, rf0, rf1⟩ := H2.out.below hb1
    clear hb1
    simp only [errW_some]
    go_wp2
    refine bodyPost_ret (v := .tuple #[.agg #[.int .i64 0, .slice none 0 0], errW (some er)]) (by simp [results, Tryd.results50, go_sem, rl, r0, r1, rf0, rf1, errW_some]) rfl (ZRet2.no ?_)
    repeat (first | exact HW1.out | refine Go.Proofs.Rcn.below_set ?_ (by first | (simp; done) | (simp; omega)) _)
  | none =>
    obtain ⟨e1, e2, rfl⟩ := zTwo_none hE
    obtain ⟨n1, hn1, h15, hlen, _, _, _⟩ := oErr_none e1
    obtain ⟨n2, hn2, _, hlen', _, _, _⟩ := oErr_none e2
    obtain rfl : n2 = n1 := by omega
    rw [hE] at hv
    have HV := Lib.hid (hv w3 HW.out)
    have en : (2 * N).toNat = n2 := by omega
    unfold widenR at hR
    rw [hE] at hR
    simp only [en] at hR
    have HN := Lib.hid hn1
    have hn : n = n2 * n2 := by rw [← HL.out]; exact hlen
    have hn' : n' = n2 * n2 := by rw [← HL'.out]; exact hlen'
    have hnn : n ≤ 64 := by rw [hn]; exact Nat.mul_le_mul h15 h15
    obtain rfl : n' = n := by rw [hn', hn]
    have Hn := Lib.hid hn
    obtain ⟨CL, hCL⟩ : ∃ C, closeO n2 L = C := ⟨_, rfl⟩
    obtain ⟨CK, hCK⟩ : ∃ C, closeO n2 K = C := ⟨_, rfl⟩
    rw [hCL, hCK] at hR
    have HR := Lib.hid hR
    have HCL := Lib.hid hCL
    have HCK := Lib.hid hCK
    clear hE hv e1 e2 hn1 hn2 hlen hlen' en hR hn hn' hCL hCK
    subst hw3
    go_enter Tryd.func50, Tryd.ntmps50
    go_wp2_with fail
    refine HV.out.mono ?_
    rintro e w1 ⟨rfl, hb1⟩
    have HW1 := Lib.hid (below_then HW.out hb1)
    have B0 := Lib.hid (H0.out.below hb1)
    have B1 := Lib.hid (H1.out.below hb1)
    have B2 := Lib.hid (H2.out.below hb1)
    clear hb1
    obtain ⟨bl, b0, b1, bf0, bf1⟩ := B1.out
    simp only [errW_none]
    go_wp2_with fail
    refine (zclose_any A' n2 n' c' N K _ HN.out h15 Hn.out (HZ'.out.below HW1.out) HCK.out).mono ?_
    rintro e w2 ⟨zK, AK, nK, cK, okK, rfl, hK2, hb2⟩
    have HW2 := Lib.hid (below_then HW1.out hb2)
    have D0 := Lib.hid (B0.out.below hb2)
    have D2 := Lib.hid (B2.out.below hb2)
    have HK2 := Lib.hid hK2
    clear hb2 hK2 bl b0 b1 bf0 bf1
    obtain ⟨bl, b0, b1, bf0, bf1⟩ := D0.out
    have HX2 : Hid (Below w.heap.size w (w2.alloc (.cells #[.int .i64 zK, .slice AK nK cK] 82))) := Go.Proofs.Rcn.below_alloc HW2.out _
    go_wp2_with fail
    refine (zclose_any A n2 n' c N L _ HN.out h15 Hn.out (HZ.out.below HX2.out) HCL.out).mono ?_
    rintro e w4 ⟨zL, AL, nL, cL, okL, rfl, hL4, hb4⟩
    have HW4 := Lib.hid (below_then HX2.out hb4)
    have F0 := Lib.hid ((D0.out.alloc _).below hb4)
    have F2 := Lib.hid ((D2.out.alloc _).below hb4)
    have FK := Lib.hid ((Cell2.new w2 (.int .i64 zK) (.slice AK nK cK) 82).below hb4)
    have HL4 := Lib.hid hL4
    clear bl b0 b1 bf0 bf1
    have HB4 := Lib.hid hb4
    clear hb4 hL4
    have hw24 : w2.heap.size < w4.heap.size := FK.out.lt
    have hw4s : w.heap.size + 2 < w4.heap.size := F2.out.lt
    have hww : w.heap.size + 2 < w2.heap.size := D2.out.lt
    cases CL with
    | none =>
      obtain ⟨rfl, rfl, rfl, rfl, rfl⟩ := HL4.out
      cases CK with
      | none =>
        obtain ⟨rfl, rfl, rfl, rfl, rfl⟩ := HK2.out
        obtain rfl : R = (N, oces L, none) := HR.out
        obtain ⟨bl, b0, b1, bf0, bf1⟩ := F0.out
        have HX4 : Hid (Below w.heap.size w (w4.alloc (.cells #[.int .i64 0, .slice none 0 0] 82))) := Go.Proofs.Rcn.below_alloc HW4.out _
        go_wp2_with fail
        refine (clone_any A n' c N L _ (HZ.out.below HX4.out) (by omega)).mono ?_
        rintro e w5 ⟨A5, c5, rfl, hr5, hb5⟩
        have HW5 := Lib.hid (below_then HX4.out hb5)
        have G2 := Lib.hid ((F2.out.alloc _).below hb5)
        have HR5 := Lib.hid hr5
        clear hb5 hr5 bl b0 b1 bf0 bf1
        obtain ⟨rl, r0, r1, rf0, rf1⟩ := G2.out
        go_wp2
        refine bodyPost_ret (v := .tuple #[.agg #[.int .i64 N, .slice A5 n' c5], errW none]) (by simp [results, Tryd.results50, go_sem, rl, r0, r1, rf0, rf1, errW_none]) rfl ⟨.slice A5 n' c5, rfl, ?_, ?_⟩
        · have k1 := ownsRow_setCell_below HR5.out (a := ⟨w.heap.size + 1 + 1, 0, none⟩) (by simp <;> omega) (.int .i64 N)
          have k2 := ownsRow_setCell_below k1 (a := ⟨w.heap.size + 1 + 1, 1, none⟩) (by simp <;> omega) (.slice A5 n' c5)
          exact R_of_zrow (ZRow.low k2 (by simp <;> omega))
        · repeat (first | exact HW5.out | refine Go.Proofs.Rcn.below_set ?_ (by first | (simp; done) | (simp; omega)) _)
      | some CK =>
        obtain ⟨rfl, rfl, rfl, hr5⟩ := HK2.out
        obtain rfl : R = (zK, oces CK, none) := HR.out
        have HR5 := Lib.hid ((hr5.alloc (.cells #[.int .i64 zK, .slice AK nK cK] 82)).below HB4.out)
        clear hr5
        have HX4 : Hid (Below w.heap.size w (w4.alloc (.cells #[.int .i64 0, .slice none 0 0] 82))) := Go.Proofs.Rcn.below_alloc HW4.out _
        obtain ⟨kl, k0, k1, kf0, kf1⟩ := FK.out
        obtain ⟨rl, r0, r1, rf0, rf1⟩ := F2.out
        have hw1s : w.heap.size ≤ w1.heap.size := HW1.out.size
        have hw1r : w.heap.size + 2 < w1.heap.size := B2.out.lt
        go_wp2
        refine bodyPost_ret (v := .tuple #[.agg #[.int .i64 zK, .slice AK nK cK], errW none]) (by simp [results, Tryd.results50, go_sem, rl, r0, r1, rf0, rf1, errW_none]) rfl ⟨.slice AK nK cK, rfl, ?_, ?_⟩
        · have k1 := ownsRow_setCell_below HR5.out (a := ⟨w.heap.size + 1 + 1, 0, none⟩) (by simp <;> omega) (.int .i64 zK)
          have k2 := ownsRow_setCell_below k1 (a := ⟨w.heap.size + 1 + 1, 1, none⟩) (by simp <;> omega) (.slice AK nK cK)
          exact R_of_zrow (ZRow.low (ZRow.alloc k2 _) hw1s)
        · repeat (first | exact HW4.out | refine Go.Proofs.Rcn.below_alloc ?_ _ | refine Go.Proofs.Rcn.below_set ?_ (by first | (simp; done) | (simp; omega)) _)
    | some CL =>
      obtain ⟨rfl, rfl, rfl, _⟩ := HL4.out
      have HX4 : Hid (Below w.heap.size w (w4.alloc (.cells #[.int .i64 zL, .slice AL nL cL] 82))) := Go.Proofs.Rcn.below_alloc HW4.out _
      obtain ⟨bl, b0, b1, bf0, bf1⟩ := F0.out
      go_wp2_with fail
      refine (clone_any A nL c zL L _ (HZ.out.below HX4.out) (by omega)).mono ?_
      rintro e w5 ⟨A5, c5, rfl, hr5, hb5⟩
      have HW5 := Lib.hid (below_then HX4.out hb5)
      have G2 := Lib.hid ((F2.out.alloc _).below hb5)
      have GK := Lib.hid ((FK.out.alloc _).below hb5)
      have HR5 := Lib.hid hr5
      have HB5 := Lib.hid hb5
      have hw45 : w4.heap.size < w5.heap.size := by have := hb5.size; simp at this; omega
      clear hb5 hr5 bl b0 b1 bf0 bf1
      cases CK with
      | none =>
        obtain ⟨rfl, rfl, rfl, rfl, rfl⟩ := HK2.out
        obtain rfl : R = (zL, oces L, none) := HR.out
        obtain ⟨rl, r0, r1, rf0, rf1⟩ := G2.out
        go_wp2
        refine bodyPost_ret (v := .tuple #[.agg #[.int .i64 zL, .slice A5 nL c5], errW none]) (by simp [results, Tryd.results50, go_sem, rl, r0, r1, rf0, rf1, errW_none]) rfl ⟨.slice A5 nL c5, rfl, ?_, ?_⟩
        · have k1 := ownsRow_setCell_below HR5.out (a := ⟨w.heap.size + 1 + 1, 0, none⟩) (by simp <;> omega) (.int .i64 zL)
          have k2 := ownsRow_setCell_below k1 (a := ⟨w.heap.size + 1 + 1, 1, none⟩) (by simp <;> omega) (.slice A5 nL c5)
          exact R_of_zrow (ZRow.low (ZRow.alloc k2 _) (by simp <;> omega))
        · repeat (first | exact HW5.out | refine Go.Proofs.Rcn.below_alloc ?_ _ | refine Go.Proofs.Rcn.below_set ?_ (by first | (simp; done) | (simp; omega)) _)
      | some CK =>
        obtain ⟨rfl, rfl, rfl, hrK⟩ := HK2.out
        obtain rfl : R = (zK, oces (widenL L CK), none) := HR.out
        rcases Nat.eq_zero_or_pos nK with hn0 | hn0
        · subst hn0
          obtain rfl : L = [] := List.eq_nil_of_length_eq_zero HL.out
          obtain ⟨rl, r0, r1, rf0, rf1⟩ := G2.out
          go_wp2
          refine wp_loop_rounds 1 ?_
          rw [rounds_succ]
          go_wp2
          refine bodyPost_ret (v := .tuple #[.agg #[.int .i64 zK, .slice A5 0 c5], errW none]) (by simp [results, Tryd.results50, go_sem, rl, r0, r1, rf0, rf1, errW_none]) rfl ⟨.slice A5 0 c5, rfl, ?_, ?_⟩
          · have k1 := ownsRow_setCell_below HR5.out (a := ⟨w.heap.size + 1 + 1, 0, none⟩) (by simp <;> omega) (.int .i64 zK)
            have k2 := ownsRow_setCell_below k1 (a := ⟨w.heap.size + 1 + 1, 1, none⟩) (by simp <;> omega) (.slice A5 0 c5)
            exact R_of_zrow (ZRow.low (ZRow.alloc k2 _) (by simp <;> omega))
          · repeat (first | exact HW5.out | refine Go.Proofs.Rcn.below_alloc ?_ _ | refine Go.Proofs.Rcn.below_set ?_ (by first | (simp; done) | (simp; omega)) _)
        obtain ⟨g, cap, hv5, hg1, hg2⟩ := HR5.out.form (by rw [HL.out]; omega)
        simp only [Value.slice.injEq] at hv5
        obtain ⟨rfl, -, rfl⟩ := hv5
        have HRK := Lib.hid ((((hrK.alloc (.cells #[.int .i64 zK, .slice AK nK cK] 82)).below HB4.out).alloc (.cells #[.int .i64 zK, .slice AL nK cL] 82)).rcel.1)
        have hlenK : CK.length = nK := HRK.out.1
        have HLK := Lib.hid hlenK
        have XK := Lib.hid (FK.out.alloc (.cells #[.int .i64 zK, .slice AL nK cL] 82))
        have X2 := Lib.hid (F2.out.alloc (.cells #[.int .i64 zK, .slice AL nK cL] 82))
        clear hrK hlenK
        have hbo : w5.heap.size ≠ g := by omega
        have hwx : w4.heap.size + 1 ≤ g := by simp at hg1; omega
        have HS : Hid (WL (w4.alloc (.cells #[.int .i64 zK, .slice AL nK cL] 82)) 0 w5.heap.size g nK c5 0 zK AK cK CK L 0 (w5.alloc (.cells #[.int .i64 zK, .slice (some ⟨g, 0, none⟩) nK c5] 82))) :=
          ⟨Go.Proofs.Rcn.below_alloc HB5.out _, Cell2.new w5 _ _ _, HR5.out.alloc _, HL.out.symm⟩
        go_wp2
        go_loopw [46] (fun i wr => ∃ q : Nat, q ≤ nK ∧ i = .int .i64 q ∧ Hid (WL (w4.alloc (.cells #[.int .i64 zK, .slice AL nK cL] 82)) 0 w5.heap.size g nK c5 0 zK AK cK CK (rep (widenI CK) q L) 0 wr)) (fun i _ => nK - (intOf i).toNat)
        case atStart => exact ⟨0, Nat.zero_le _, rfl, HS⟩
        case round =>
          obtain ⟨q, hq, rfl, HV⟩ := hrel
          clear HS
          obtain ⟨kl, k0, k1, kf0, kf1⟩ := XK.out.below HV.out.below
          obtain ⟨ol, o0, o1, of0, of1⟩ := HV.out.out
          by_cases hlt : q < nK
          · have hltz : (q : Int) < (nK : Int) := by omega
            have HSt : Hid (rep (widenI CK) (q + 1) L = (rep (widenI CK) q L).set q (widenC (cg (rep (widenI CK) q L) q) (cg CK q))) := rfl
            have c0 := HV.out.row.at0 HV.out.ln hlt
            have cm := HV.out.row.at1 HV.out.ln hlt
            have fr0 := HV.out.row.free HV.out.ln (q * 2)
            have fr1 := HV.out.row.free HV.out.ln (q * 2 + 1)
            have HPut := Lib.hid (fun nq a m => (HV.out.drewN nq).put (by simp; omega) hbo q a m)
            have HSelf := Lib.hid (set_self (rep (widenI CK) q L) q)
            obtain ⟨gy, oy, rfl, y0, y1⟩ := rcel_at (HRK.out.below HV.out.below) hlt
            generalize rep (widenI CK) q L = X at HV HSt c0 cm HPut HSelf
            generalize cg X q = x at c0 cm HSt HSelf
            generalize cg CK q = y at y0 y1 HSt
            obtain ⟨xh, xm⟩ := x
            obtain ⟨yh, ym⟩ := y
            simp only at c0 cm y0 y1
            cases xh with
            | false =>
              have HE : Hid (widenC ⟨false, xm⟩ ⟨yh, ym⟩ = ⟨false, xm⟩) := rfl
              go_wp2_with fail
              go_quiet (fail)
              go_wp2
              exact ⟨⟨q + 1, by omega, by go_num, by show WL _ _ _ _ _ _ _ _ _ _ _ _ _ _; rw [HSt.out, HE.out, HSelf.out]; exact HV.out.drewN _⟩, by simp [intOf]; omega⟩
            | true =>
              cases yh with
              | false =>
                have HE : Hid (widenC ⟨true, xm⟩ ⟨false, ym⟩ = ⟨false, 0⟩) := rfl
                go_wp2_with fail
                go_quiet (fail)
                go_wp2
                exact ⟨⟨q + 1, by omega, by go_num, by show WL _ _ _ _ _ _ _ _ _ _ _ _ _ _; rw [HSt.out, HE.out]; exact HPut.out _ false 0⟩, by simp [intOf]; omega⟩
              | true =>
                by_cases hc : xm < ym
                · have hc' : decide (xm < ym) = true := decide_eq_true hc
                  have HE : Hid (widenC ⟨true, xm⟩ ⟨true, ym⟩ = ⟨false, 0⟩) := by show _ = _; unfold widenC; rw [if_pos (by simp; omega)]
                  go_wp2_with fail
                  go_quiet (fail)
                  go_wp2
                  exact ⟨⟨q + 1, by omega, by go_num, by show WL _ _ _ _ _ _ _ _ _ _ _ _ _ _; rw [HSt.out, HE.out]; exact HPut.out _ false 0⟩, by simp [intOf]; omega⟩
                · have hc' : decide (xm < ym) = false := decide_eq_false hc
                  have HE : Hid (widenC ⟨true, xm⟩ ⟨true, ym⟩ = ⟨true, xm⟩) := by show _ = _; unfold widenC; rw [if_neg (by simp; omega)]
                  go_wp2_with fail
                  go_quiet (fail)
                  go_wp2
                  exact ⟨⟨q + 1, by omega, by go_num, by show WL _ _ _ _ _ _ _ _ _ _ _ _ _ _; rw [HSt.out, HE.out, HSelf.out]; exact HV.out.drewN _⟩, by simp [intOf]; omega⟩
          · obtain rfl : q = nK := by omega
            have HRow : Hid (ZRow wr (w4.alloc (.cells #[.int .i64 zK, .slice AL q cL] 82)).heap.size oC (.slice (some ⟨g, 0, none⟩) q c5) (widenL L CK)) := by
              have := HV.out.row
              show ZRow _ _ _ _ _
              rwa [show rep (widenI CK) q L = widenL L CK by rw [← HL.out]; rfl] at this
            have HB6 : Hid (Below w.heap.size w wr) := below_then HX4.out HV.out.below
            obtain ⟨rl, r0, r1, rf0, rf1⟩ := X2.out.below HV.out.below
            clear HV
            go_wp2
            refine bodyPost_ret (v := .tuple #[.agg #[.int .i64 zK, .slice (some ⟨g, 0, none⟩) q c5], errW none]) (by simp [results, Tryd.results50, go_sem, rl, r0, r1, rf0, rf1, errW_none]) rfl ⟨.slice (some ⟨g, 0, none⟩) q c5, rfl, ?_, ?_⟩
            · have k1 := ownsRow_setCell_below HRow.out (a := ⟨w.heap.size + 1 + 1, 0, none⟩) (by simp <;> omega) (.int .i64 zK)
              have k2 := ownsRow_setCell_below k1 (a := ⟨w.heap.size + 1 + 1, 1, none⟩) (by simp <;> omega) (.slice (some ⟨g, 0, none⟩) q c5)
              exact R_of_zrow (ZRow.low k2 (by simp <;> omega))
            · repeat (first | exact HB6.out | refine Go.Proofs.Rcn.below_set ?_ (by first | (simp; done) | (simp; omega)) _)
theorem octagon_Widen.calls [EA] (a0_0 : Int) (A0_1 : Option Addr) (c0_1 : Nat) (l0_1 : List OC) (a1_0 : Int) (A1_1 : Option Addr) (c1_1 : Nat) (l1_1 : List OC) (r1 : Int) (r2 : List OC) (r3 : Option Int) (w : World) (hr0_1 : Kd.C k95 w A0_1 l0_1.length l0_1) (hc0_1 : l0_1.length ≤ c0_1) (hr1_1 : Kd.C k95 w A1_1 l1_1.length l1_1) (hc1_1 : l1_1.length ≤ c1_1) (h : octagon_Widen.f a0_0 l0_1 a1_0 l1_1 = some (r1, r2, r3)) (h2_ : ErrAt 2 1 w) (h3_ : ErrAt 3 0 w) (h7_ : ErrAt 7 4 w) :
    Calls Tryd.prog 50 #[.agg #[.int .i64 a0_0, .slice A0_1 l0_1.length c0_1], .agg #[.int .i64 a1_0, .slice A1_1 l1_1.length c1_1]] w fun e w' => ∃ v1_ : Value, e = .returned (.tuple #[.agg #[.int .i64 r1, v1_], errW r3]) ∧ Kd.R k95 95 w' w.heap.size (fun _ => True) v1_ r2 ∧ Below w.heap.size w w' := by
  have e : widenR a0_0 (ocels l0_1) a1_0 (ocels l1_1) = (r1, r2, r3) := by
    unfold octagon_Widen.f at h
    unfold widenR
    cases hE : oTwo a0_0 (ocels l0_1) a1_0 (ocels l1_1) with
    | some er => rw [hE] at h; exact Option.some.inj h
    | none =>
      rw [hE] at h
      simp only at h ⊢
      cases h1 : closeO (2 * a0_0).toNat (ocels l0_1) <;> cases h2 : closeO (2 * a0_0).toNat (ocels l1_1) <;> rw [h1, h2] at h <;> simp only at h ⊢ <;> first | exact Option.some.inj h | (rw [oces_ocels]; exact Option.some.inj h)
  have q := zwiden_any A0_1 l0_1.length c0_1 a0_0 (ocels l0_1) A1_1 l1_1.length c1_1 a1_0 (ocels l1_1) w (rcel_of_C hr0_1) (rcel_of_C hr1_1) h2_ h3_ h7_
  rw [e] at q
  exact q
end Go.Proofs.Rco
