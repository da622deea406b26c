import Derived.Test.YtjpboodkmhikpaaDoorOrQk
import Derived.Test.YtjpboodkmhikpaaDoorOrSp
/- Package octagon: the meet of two. -/
set_option linter.unusedVariables false
set_option linter.unusedSimpArgs false
namespace Go.Proofs.Rco
open Go Go.RowKit Go.Proofs.Rcn Go.Proofs.Rcg Go.Proofs.YtjpboodkmhikpaaDoor.Z Go.Proofs.YtjpboodkmhikpaaDoorW.PrintWords
open Go.Proofs.YtjpboodkmhikpaaDoorW.PrintLast (start_ pure_ take_ one_ last_ norm_ done_ goes_ value_ skip_ i64_w i32_w)
/-- A copy in the making: its row, its variable. -/
structure MW (w1 : World) (bo : Nat) (A : Option Addr) (n c : Nat) (N : Int) (X : List Cel) (wr : World) : Prop where
  below : Below w1.heap.size w1 wr
  out : Cell2 wr bo (.int .i64 N) (.slice A n c)
  row : ZRow wr w1.heap.size oC (.slice A n c) X
  ln : n = X.length
section
variable {w1 wr : World} {bo g n c : Nat} {A : Option Addr} {N : Int} {X : List Cel}
theorem lt_drew {g : Nat} {w : World} (h : g < w.heap.size) : g < w.drew.heap.size := h
theorem MW.drew (h : MW w1 bo A n c N X wr) : MW w1 bo A n c N X wr.drew :=
  ⟨Go.Proofs.Rcn.below_drew h.below, h.out.drew, h.row, h.ln⟩
theorem MW.alloc (h : MW w1 bo A n c N X wr) (o : Obj) : MW w1 bo A n c N X (wr.alloc o) :=
  ⟨Go.Proofs.Rcn.below_alloc h.below o, h.out.alloc o, h.row.alloc o, h.ln⟩
theorem MW.least (h : MW w1 bo (some ⟨g, 0, none⟩) n c N X wr) (hg : w1.heap.size ≤ g) (hbo : bo ≠ g) (hgl : g < wr.heap.size) (m i j : Nat) (h2 : 2 * N = m) (hm : m ≤ 8) (hl : n = m * m) (hi : i < m) (hj : j < m) (b : Bool) (x : Int) :
    Calls Tryd.prog 102 #[.agg #[.int .i64 N, .slice (some ⟨g, 0, none⟩) n c], .int .i64 i, .int .i64 j, .bool b, .int .i64 x] wr fun e w' => e = .returned (.tuple #[]) ∧ MW w1 bo (some ⟨g, 0, none⟩) n c N (leastO m X i j b x) w' := by
  obtain ⟨q, rfl⟩ : ∃ q, m = 2 * q := ⟨m / 2, by omega⟩
  exact (least_any q i j g n c w1.heap.size N X b x wr (by omega) (by omega) hl hi hj h.row hgl h.ln).mono fun e w' p => ⟨p.1, p.2.2.below h.below h.below.size hg, h.out.but p.2.2 hbo, p.2.1, by rw [leastO_length]; exact h.ln⟩
end
def metI (n : Nat) (K : List Cel) (X : List Cel) (i : Nat) : List Cel := leastO n X (i / n) (i % n) (cg K i).has (cg K i).most
theorem rem_m {q m : Nat} (h : 0 < m) : (q : Int).tmod (m : Int) = ((q % m : Nat) : Int) := by rw [Int.tmod_eq_emod_of_nonneg (by omega)]; rfl
theorem met_idx {q n2 n' : Nat} (hn2 : 0 < n2) (h8 : n2 ≤ 8) (hn : n' = n2 * n2) (hlt : q < n') : ∃ qd qm : Nat, q / n2 = qd ∧ q % n2 = qm ∧ qd < n2 ∧ qm < n2 ∧ (q : Int) / (n2 : Int) = (qd : Int) ∧ (q : Int).tmod (n2 : Int) = (qm : Int) ∧ wrap64 (n2 : Int) = (n2 : Int) ∧ IntKind.i64.wrap (qd : Int) = (qd : Int) := by
  have h1 : q / n2 < n2 := (Nat.div_lt_iff_lt_mul hn2).2 (by rw [← hn]; exact hlt)
  refine ⟨q / n2, q % n2, rfl, rfl, h1, Nat.mod_lt _ hn2, rfl, rem_m hn2, by unfold wrap64; omega, ?_⟩
  generalize q / n2 = d at h1 ⊢
  exact IntWalk.i64_in _ ⟨by omega, by omega⟩
def meetR (N : Int) (L : List Cel) (M : Int) (K : List Cel) : Int × List OC × Bool × Option Int :=
  match oTwo N L M K with
  | some e => (0, [], false, some e)
  | none => ((shutO N (metO (2 * N).toNat L K)).1, (shutO N (metO (2 * N).toNat L K)).2.1, (shutO N (metO (2 * N).toNat L K)).2.2, none)
set_option maxRecDepth 100000 in
set_option maxHeartbeats 8000000 in
theorem zmeet_any [EA] (A : Option Addr) (n c : Nat) (N : Int) (L : List Cel) (A' : Option Addr) (n' c' : Nat) (M : Int) (K : List Cel) (w : World) (hz : RCel w A n L) (hz' : RCel w A' n' K) (h2 : ErrAt 2 1 w) (h3 : ErrAt 3 0 w) (h7 : ErrAt 7 4 w) :
    Calls Tryd.prog 58 #[.agg #[.int .i64 N, .slice A n c], .agg #[.int .i64 M, .slice A' n' c']] w (ZRet w (meetR N L M K)) := by
  have HL := Lib.hid hz.1
  have HL' := Lib.hid hz'.1
  have HZ := Lib.hid hz
  have HZ' := Lib.hid hz'
  have hv := fun W (h : Below w.heap.size w W) => ztwo_any A n c N L A' n' c' M K W (hz.below h) (hz'.below h) (h2.below h) (h3.below h) (h7.below h)
  obtain ⟨R, hR⟩ : ∃ R, R = meetR N L M K := ⟨_, rfl⟩
  rw [← hR]
  clear hz hz' h2 h3 h7
  obtain ⟨w3, hw3⟩ : ∃ w3, w3 = ((w.alloc (.cells #[.int .i64 N, .slice A n c] 82)).alloc (.cells #[.int .i64 M, .slice A' n' c'] 82)).alloc (.cells #[.int .i64 0, .slice none 0 0] 82) := ⟨_, rfl⟩
  have H0 : Hid (Cell2 w3 w.heap.size (.int .i64 N) (.slice A n c)) := by show Cell2 _ _ _ _; rw [hw3]; exact ((Cell2.new w _ _ _).alloc _).alloc _
  have H1 : Hid (Cell2 w3 (w.heap.size + 1) (.int .i64 M) (.slice A' n' c')) := by
    have := (Cell2.new (w.alloc (.cells #[.int .i64 N, .slice A n c] 82)) (.int .i64 M) (.slice A' n' c') 82).alloc (.cells #[.int .i64 0, .slice none 0 0] 82)
    show Cell2 _ _ _ _
    rw [hw3]
    simpa using this
  have H2 : Hid (Cell2 w3 (w.heap.size + 2) (.int .i64 0) (.slice none 0 0)) := by
    have := Cell2.new ((w.alloc (.cells #[.int .i64 N, .slice A n c] 82)).alloc (.cells #[.int .i64 M, .slice A' n' c'] 82)) (.int .i64 0) (.slice none 0 0) 82
    show Cell2 _ _ _ _
    rw [hw3]
    simpa using this
  have HW : Hid (Below w.heap.size w w3) := by show Below _ _ _; rw [hw3]; exact Go.Proofs.Rcn.below_alloc (Go.Proofs.Rcn.below_alloc (Go.Proofs.Rcn.below_alloc (Below.refl _ _) _) _) _
  have HW3 := Lib.hid hw3
  cases hE : oTwo N L M K with
  | some er =>
    obtain rfl : R = (0, [], false, some er) := by rw [hR]; unfold meetR; rw [hE]
    rw [hE] at hv
    have HV := Lib.hid (hv w3 HW.out)
    clear hE hR hv
    subst hw3
    go_enter Tryd.func58, Tryd.ntmps58
    go_wp2_with fail
    refine HV.out.mono ?_
    rintro e w1 ⟨rfl, hb1⟩
    have HW1 := Lib.hid (below_then HW.out hb1)
    obtain ⟨rl, r0, r1, rf0, rf1⟩ := H2.out.below hb1
    clear hb1
    simp only [errW_some]
    go_wp2
    refine bodyPost_ret (v := .tuple #[.agg #[.int .i64 0, .slice none 0 0], .bool false, errW (some er)]) (by simp [results, Tryd.results58, go_sem, rl, r0, r1, rf0, rf1, errW_some]) rfl (ZRet.no ?_)
    repeat (first | exact HW1.out | refine Go.Proofs.Rcn.below_set ?_ (by first | (simp; done) | (simp; omega)) _)
  | none =>
    obtain ⟨e1, e2, rfl⟩ := zTwo_none hE
    obtain ⟨n1, hn1, h15, hlen, _, _, _⟩ := oErr_none e1
    obtain ⟨n2, hn2, _, hlen', _, _, _⟩ := oErr_none e2
    obtain rfl : n2 = n1 := by omega
    rw [hE] at hv
    have HV := Lib.hid (hv w3 HW.out)
    have en : (2 * N).toNat = n2 := by omega
    unfold meetR at hR
    rw [hE] at hR
    have HN := Lib.hid hn1
    have hn : n = n2 * n2 := by rw [← HL.out]; exact hlen
    have hn' : n' = n2 * n2 := by rw [← HL'.out]; exact hlen'
    have hnn : n ≤ 64 := by rw [hn]; exact Nat.mul_le_mul h15 h15
    obtain rfl : n' = n := by rw [hn', hn]
    have Hn := Lib.hid hn
    have HR : Hid (R = ((shutO N (metO (2 * N).toNat L K)).1, (shutO N (metO (2 * N).toNat L K)).2.1, (shutO N (metO (2 * N).toNat L K)).2.2, none)) := hR
    have HEn := Lib.hid en
    clear hE hv e1 e2 hn1 hn2 hlen hlen' en hR hn hn'
    subst hw3
    go_enter Tryd.func58, Tryd.ntmps58
    go_wp2_with fail
    refine HV.out.mono ?_
    rintro e w1 ⟨rfl, hb1⟩
    have HW1 := Lib.hid (below_then HW.out hb1)
    have B0 := Lib.hid (H0.out.below hb1)
    have B1 := Lib.hid (H1.out.below hb1)
    have B2 := Lib.hid (H2.out.below hb1)
    clear hb1
    obtain ⟨bl, b0, b1, bf0, bf1⟩ := B0.out
    simp only [errW_none]
    go_wp2_with fail
    refine (clone_any A n' c N L _ (HZ.out.below HW1.out) (by omega)).mono ?_
    rintro e w2 ⟨A2, c2, rfl, hr2, hb2⟩
    have hform : 0 < n' → ∃ g, A2 = some ⟨g, 0, none⟩ ∧ w1.heap.size ≤ g ∧ g < w2.heap.size := fun hp => by
      obtain ⟨g, cap, hv2, hg1, hg2⟩ := hr2.form (by rw [HL.out]; omega)
      simp only [Value.slice.injEq] at hv2
      exact ⟨g, hv2.1, hg1, hg2⟩
    have HF := Lib.hid hform
    clear hform
    have HW2 := Lib.hid (below_then HW1.out hb2)
    have D1 := Lib.hid (B1.out.below hb2)
    have hwl := B2.out.lt
    have HS : Hid (MW w1 w2.heap.size A2 n' c2 N L (w2.alloc (.cells #[.int .i64 N, .slice A2 n' c2] 82))) :=
      ⟨Go.Proofs.Rcn.below_alloc hb2 _, Cell2.new w2 _ _ _, hr2.alloc _, HL.out.symm⟩
    clear hb2 hr2 bl b0 b1 bf0 bf1
    obtain ⟨bl, b0, b1, bf0, bf1⟩ := D1.out
    go_wp2
    go_loopw [25] (fun i wr => ∃ q : Nat, q ≤ n' ∧ i = .int .i64 q ∧ Hid (MW w1 w2.heap.size A2 n' c2 N (rep (metI n2 K) q L) wr)) (fun i _ => n' - (intOf i).toNat)
    case atStart => exact ⟨0, Nat.zero_le _, rfl, HS⟩
    case round =>
      obtain ⟨q, hq, rfl, HQ⟩ := hrel
      clear HS bl b0 b1 bf0 bf1
      by_cases hlt : q < n'
      · have hltz : (q : Int) < (n' : Int) := by omega
        have HSt : Hid (rep (metI n2 K) (q + 1) L = leastO n2 (rep (metI n2 K) q L) (q / n2) (q % n2) (cg K q).has (cg K q).most) := rfl
        obtain ⟨g, rfl, hg1, hg2⟩ := HF.out (by omega)
        have hbo : w2.heap.size ≠ g := by omega
        have hn2 : 0 < n2 := by
          rcases Nat.eq_zero_or_pos n2 with h0 | h0
          · have := Hn.out; subst h0; omega
          · exact h0
        obtain ⟨qd, qm, e3, e4, hqd, hqm, he⟩ := met_idx hn2 h15 Hn.out hlt
        rw [e3, e4] at HSt
        have HEE := Lib.hid he
        have hn0 : ¬ n2 = 0 := Nat.ne_of_gt hn2
        clear e3 e4 he
        have hgw : g < wr.heap.size := Nat.lt_of_lt_of_le hg2 (by have := HQ.out.out.lt; omega)
        obtain ⟨gy, oy, rfl, y0, y1⟩ := rcel_at ((HZ'.out.below HW1.out).below HQ.out.below) hlt
        obtain ⟨wd, hwd⟩ : ∃ wd, wd = wr.alloc (.cells #[.bool (cg K q).has, .int .i64 (cg K q).most] 95) := ⟨_, rfl⟩
        have HD : Hid (MW w1 w2.heap.size (some ⟨g, 0, none⟩) n' c2 N (rep (metI n2 K) q L) wd ∧ Cell2 wd wr.heap.size (.bool (cg K q).has) (.int .i64 (cg K q).most) ∧ g < wd.heap.size) := by
          show _ ∧ _
          rw [hwd]
          exact ⟨HQ.out.alloc _, Cell2.new wr _ _ _, by simp; omega⟩
        generalize rep (metI n2 K) q L = X at HQ HSt HD
        generalize cg K q = y at y0 y1 HSt HD hwd
        obtain ⟨yh, ym⟩ := y
        simp only at y0 y1 hwd
        have h2N := HN.out
        obtain ⟨e1, e2, hwn, hwd1⟩ := HEE.out
        go_upto_region 8 with fail
        rw [← hwd]
        clear hwd
        refine start_ (n := 16) (S := fun w' => w'.cell? ⟨w2.heap.size, 0, none⟩ = some (.int .i64 N) ∧ w'.cell? ⟨w2.heap.size, 1, none⟩ = some (.slice (some ⟨g, 0, none⟩) n' c2) ∧ w'.cell? ⟨wr.heap.size, 0, none⟩ = some (.bool yh) ∧ w'.cell? ⟨wr.heap.size, 1, none⟩ = some (.int .i64 ym)) (ds := [15]) #[false, false, false, false, false, false, false, false, false, false, false, false, false, false, false, false] (by kernel_rfl) rfl rfl ⟨HD.out.1.out.c0, HD.out.1.out.c1, HD.out.2.1.c0, HD.out.2.1.c1⟩ (fun hHeld => ?_)
        refine pure_ (i := 1) (N := some 31) (v := ?_) (a' := ?_) #[false, true, false, false, false, false, false, false, false, false, false, false, false, false, false, false] rfl rfl (by kernel_rfl) (fun _ _ _ h => h) (Or.inl ⟨by rfl, ?_⟩) ?_ ?_; rotate_left; (· intro w'; go_simp; (with_reducible rfl)); rotate_left; (· simp only [sp]; rfl)
        refine pure_ (i := 2) (N := some 32) (v := ?_) (a' := ?_) #[false, true, true, false, false, false, false, false, false, false, false, false, false, false, false, false] rfl rfl (by kernel_rfl) (fun _ _ _ h => h) (Or.inl ⟨by rfl, ?_⟩) ?_ ?_; rotate_left; (· intro w'; go_simp; (with_reducible rfl)); rotate_left; (· simp only [sp]; rfl)
        refine pure_ (i := 6) (N := some 36) (v := ?_) (a' := ?_) #[false, true, true, false, false, false, true, false, false, false, false, false, false, false, false, false] rfl rfl (by kernel_rfl) (fun _ _ _ h => h) (Or.inl ⟨by rfl, ?_⟩) ?_ ?_; rotate_left; (· intro w'; go_simp; (with_reducible rfl)); rotate_left; (· simp only [sp]; rfl)
        refine pure_ (i := 7) (N := some 37) (v := ?_) (a' := ?_) #[false, true, true, false, false, false, true, true, false, false, false, false, false, false, false, false] rfl rfl (by kernel_rfl) (fun _ _ _ h => h) (Or.inl ⟨by rfl, ?_⟩) ?_ ?_; rotate_left; (· intro w'; go_simp; (with_reducible rfl)); rotate_left; (· simp only [sp]; rfl)
        refine pure_ (i := 11) (N := some 41) (v := ?_) (a' := ?_) #[false, true, true, false, false, false, true, true, false, false, false, true, false, false, false, false] rfl rfl (by kernel_rfl) (fun _ _ _ h => h) (Or.inl ⟨by rfl, ?_⟩) ?_ ?_; rotate_left; (· intro w'; go_simp; (with_reducible rfl)); rotate_left; (· simp only [sp]; rfl)
        refine pure_ (i := 13) (N := some 43) (v := ?_) (a' := ?_) #[false, true, true, false, false, false, true, true, false, false, false, true, false, true, false, false] rfl rfl (by kernel_rfl) (fun _ _ _ h => h) (Or.inl ⟨by rfl, ?_⟩) ?_ ?_; rotate_left; (· intro w'; go_simp; (with_reducible rfl)); rotate_left; (· simp only [sp]; rfl)
        refine take_ (i := 0) (N := some 30) (v := ?_) (a' := ?_) #[true, true, true, false, false, false, true, true, false, false, false, true, false, true, false, false] rfl rfl (by kernel_rfl) (fun _ _ _ h => h) (Or.inl ⟨by rfl, ?_⟩) hHeld ?_ ?_; rotate_left; (· rintro w' ⟨s0, s1, s2, s3⟩; go_simp; (with_reducible rfl)); rotate_left; (· simp only [sp]; rfl)
        refine take_ (i := 3) (N := some 33) (v := ?_) (a' := ?_) #[true, true, true, true, false, false, true, true, false, false, false, true, false, true, false, false] rfl rfl (by kernel_rfl) (fun _ _ _ h => h) (Or.inl ⟨by rfl, ?_⟩) hHeld ?_ ?_; rotate_left; (· rintro w' ⟨s0, s1, s2, s3⟩; go_simp; (with_reducible rfl)); rotate_left; (· simp only [sp]; rfl)
        refine pure_ (i := 4) (N := some 34) (v := ?_) (a' := ?_) #[true, true, true, true, true, false, true, true, false, false, false, true, false, true, false, false] rfl rfl (by kernel_rfl) (fun _ _ _ h => h) (Or.inl ⟨by rfl, ?_⟩) ?_ ?_; rotate_left; (· intro w'; go_simp; (with_reducible rfl)); rotate_left; (· simp only [sp]; rfl)
        refine pure_ (i := 5) (N := some 35) (v := ?_) (a' := ?_) #[true, true, true, true, true, true, true, true, false, false, false, true, false, true, false, false] rfl rfl (by kernel_rfl) (fun _ _ _ h => h) (Or.inl ⟨by rfl, ?_⟩) ?_ ?_; rotate_left; (· intro w'; go_simp; (with_reducible rfl)); rotate_left; (· simp only [sp]; rfl)
        refine take_ (i := 8) (N := some 38) (v := ?_) (a' := ?_) #[true, true, true, true, true, true, true, true, true, false, false, true, false, true, false, false] rfl rfl (by kernel_rfl) (fun _ _ _ h => h) (Or.inl ⟨by rfl, ?_⟩) hHeld ?_ ?_; rotate_left; (· rintro w' ⟨s0, s1, s2, s3⟩; go_simp; (with_reducible rfl)); rotate_left; (· simp only [sp]; rfl)
        refine pure_ (i := 9) (N := some 39) (v := ?_) (a' := ?_) #[true, true, true, true, true, true, true, true, true, true, false, true, false, true, false, false] rfl rfl (by kernel_rfl) (fun _ _ _ h => h) (Or.inl ⟨by rfl, ?_⟩) ?_ ?_; rotate_left; (· intro w'; go_simp; (with_reducible rfl)); rotate_left; (· simp only [sp]; rfl)
        refine pure_ (i := 10) (N := some 40) (v := ?_) (a' := ?_) #[true, true, true, true, true, true, true, true, true, true, true, true, false, true, false, false] rfl rfl (by kernel_rfl) (fun _ _ _ h => h) (Or.inl ⟨by rfl, ?_⟩) ?_ ?_; rotate_left; (· intro w'; go_simp; (with_reducible rfl)); rotate_left; (· simp only [sp]; rfl)
        refine take_ (i := 12) (N := some 42) (v := ?_) (a' := ?_) #[true, true, true, true, true, true, true, true, true, true, true, true, true, true, false, false] rfl rfl (by kernel_rfl) (fun _ _ _ h => h) (Or.inl ⟨by rfl, ?_⟩) hHeld ?_ ?_; rotate_left; (· rintro w' ⟨s0, s1, s2, s3⟩; go_simp; (with_reducible rfl)); rotate_left; (· simp only [sp]; rfl)
        refine take_ (i := 14) (N := some 44) (v := ?_) (a' := ?_) #[true, true, true, true, true, true, true, true, true, true, true, true, true, true, true, false] rfl rfl (by kernel_rfl) (fun _ _ _ h => h) (Or.inl ⟨by rfl, ?_⟩) hHeld ?_ ?_; rotate_left; (· rintro w' ⟨s0, s1, s2, s3⟩; go_simp; (with_reducible rfl)); rotate_left; (· simp only [sp]; rfl)
        refine last_ (i := 15) (N := some 45) #[true, true, true, true, true, true, true, true, true, true, true, true, true, true, true, true] rfl rfl (by kernel_rfl) (by decide) (fun K hK => ?_)
        refine goes_ Tryd.func102 (by kernel_rfl) rfl #[.agg #[.int .i64 N, .slice (some ⟨g, 0, none⟩) n' c2], .int .i64 qd, .int .i64 qm, .bool yh, .int .i64 ym] (by rfl) rfl rfl (by simp only [List.map_toArray, List.map_cons, List.map_nil]; rfl) ?_
        with_reducible refine (MW.least HD.out.1.drew hg1 hbo (lt_drew HD.out.2.2) n2 _ _ HN.out h15 Hn.out hqd hqm _ _).mono ?_
        rintro e w9 ⟨rfl, h2⟩
        refine ⟨_, rfl, ?_⟩
        refine hK.out _ _ ?_
        clear hK K
        refine norm_ (a' := ?_) ?_ ?_
        rotate_left
        · show Act.put _ (some 45) _ = _
          simp only [sp]
          rfl
        refine done_ (by kernel_rfl) ?_
        have HW9 := Lib.hid h2
        clear e1 e2 hwn hwd1
        clear HV HW HW1 HL HL' HZ HZ' H0 H1 H2 B0 B1 B2 D1
        go_wp2
        exact ⟨⟨q + 1, by omega, by go_num, by show MW _ _ _ _ _ _ _ _; rw [HSt.out]; exact HW9.out⟩, by simp [intOf]; omega⟩
      · obtain rfl : q = n' := by omega
        have hm : rep (metI n2 K) q L = metO (2 * N).toNat L K := by rw [HEn.out, ← HL'.out]; rfl
        rw [hm] at HQ
        obtain ⟨bl, b0, b1, bf0, bf1⟩ := HQ.out.out
        have HB3 := Lib.hid (below_then HW1.out HQ.out.below)
        have F2 := Lib.hid (B2.out.below HQ.out.below)
        go_wp2_with fail
        refine (zclose_any A2 n2 q c2 N (metO (2 * N).toNat L K) _ HN.out h15 Hn.out HQ.out.row.rcel.1 rfl).mono ?_
        rintro e w4 ⟨z4, A4, n4, c4, ok4, rfl, hp4, hb4⟩
        have HW4 := Lib.hid (below_then HB3.out hb4)
        obtain ⟨rl, r0, r1, rf0, rf1⟩ := F2.out.below hb4
        have hwr := HB3.out.size
        have hw41 := hb4.size
        have hF2 := F2.out.lt
        clear hb4 bl b0 b1 bf0 bf1
        unfold shutO at HR
        rw [HEn.out] at HR hp4
        generalize closeO n2 (metO n2 L K) = C at hp4 HR
        cases C with
        | none =>
          obtain ⟨rfl, rfl, rfl, rfl, rfl⟩ := hp4
          obtain rfl : R = (0, [], false, none) := HR.out
          go_wp2
          refine bodyPost_ret (v := .tuple #[.agg #[.int .i64 0, .slice none 0 0], .bool false, errW none]) (by simp [results, Tryd.results58, go_sem, rl, r0, r1, rf0, rf1, errW_none]) rfl (ZRet.no ?_)
          repeat (first | exact HW4.out | refine Go.Proofs.Rcn.below_alloc ?_ _ | refine Go.Proofs.Rcn.below_set ?_ (by first | (simp; done) | (simp; omega)) _ | refine Go.Proofs.Rcn.below_drew ?_)
        | some C =>
          obtain ⟨rfl, rfl, rfl, hr4⟩ := hp4
          obtain rfl : R = (z4, oces C, true, none) := HR.out
          have HR4 := Lib.hid hr4
          clear hr4
          go_wp2
          refine bodyPost_ret (v := .tuple #[.agg #[.int .i64 z4, .slice A4 n4 c4], .bool true, errW none]) (by simp [results, Tryd.results58, go_sem, rl, r0, r1, rf0, rf1, errW_none]) rfl ⟨.slice A4 n4 c4, rfl, ?_, ?_⟩
          · have k1 := ownsRow_setCell_below HR4.out (a := ⟨w.heap.size + 1 + 1, 0, none⟩) (by simp <;> omega) (.int .i64 z4)
            have k2 := ownsRow_setCell_below k1 (a := ⟨w.heap.size + 1 + 1, 1, none⟩) (by simp <;> omega) (.slice A4 n4 c4)
            exact R_of_zrow (ZRow.low (ZRow.alloc k2 _) (by first | (simp; done) | (simp; omega) | omega))
          · repeat (first | exact HW4.out | refine Go.Proofs.Rcn.below_alloc ?_ _ | refine Go.Proofs.Rcn.below_set ?_ (by first | (simp; done) | (simp; omega)) _)
theorem octagon_Meet.calls [EA] (a0_0 : Int) (A0_1 : Option Addr) (c0_1 : Nat) (l0_1 : List OC) (a1_0 : Int) (A1_1 : Option Addr) (c1_1 : Nat) (l1_1 : List OC) (r1 : Int) (r2 : List OC) (r3 : Bool) (r4 : Option Int) (w : World) (hr0_1 : Kd.C k95 w A0_1 l0_1.length l0_1) (hc0_1 : l0_1.length ≤ c0_1) (hr1_1 : Kd.C k95 w A1_1 l1_1.length l1_1) (hc1_1 : l1_1.length ≤ c1_1) (h : octagon_Meet.f a0_0 l0_1 a1_0 l1_1 = some (r1, r2, r3, r4)) (h2_ : ErrAt 2 1 w) (h3_ : ErrAt 3 0 w) (h7_ : ErrAt 7 4 w) :
    Calls Tryd.prog 58 #[.agg #[.int .i64 a0_0, .slice A0_1 l0_1.length c0_1], .agg #[.int .i64 a1_0, .slice A1_1 l1_1.length c1_1]] w fun e w' => ∃ v1_ : Value, e = .returned (.tuple #[.agg #[.int .i64 r1, v1_], .bool r3, errW r4]) ∧ Kd.R k95 95 w' w.heap.size (fun _ => True) v1_ r2 ∧ Below w.heap.size w w' := by
  have e : meetR a0_0 (ocels l0_1) a1_0 (ocels l1_1) = (r1, r2, r3, r4) := by
    unfold octagon_Meet.f at h
    unfold meetR
    cases hE : oTwo a0_0 (ocels l0_1) a1_0 (ocels l1_1) <;> (rw [hE] at h; exact Option.some.inj h)
  have q := zmeet_any A0_1 l0_1.length c0_1 a0_0 (ocels l0_1) A1_1 l1_1.length c1_1 a1_0 (ocels l1_1) w (rcel_of_C hr0_1) (rcel_of_C hr1_1) h2_ h3_ h7_
  rw [e] at q
  exact q
end Go.Proofs.Rco
