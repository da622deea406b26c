import Derived.Test.YtcalcnfppnbooaaDoorOxZh
import Derived.Test.YtcalcnfppnbooaaDoorOxQk
import Derived.Test.YtcalcnfppnbooaaDoorOxQy
import Derived.Deep.QuietTactic
import Derived.BigQuiet
/- Package octagon: has it a point? -/
set_option linter.unusedVariables false
set_option linter.unusedSimpArgs false
namespace Go.Proofs.Rco
open Go Go.RowKit Go.Proofs.Rcn Go.Proofs.Rcg Go.Proofs.YtcalcnfppnbooaaDoor.Z Go.Proofs.YtcalcnfppnbooaaDoorW.PrintWords

def okPO (n : Nat) (L : List Cel) (p : List Int) (i j : Nat) : Bool := !(cg L (i * n + j)).has || decide (valO p j - valO p i ≤ (cg L (i * n + j)).most)
theorem hasO_true {n : Nat} {L : List Cel} {p : List Int} (h : ∀ a b, a < n → b < n → okPO n L p a b = true) : hasO n L p = true := by
  unfold hasO
  simp only [List.all_eq_true, List.mem_range]
  intro a ha b hb
  exact h a b ha hb
theorem hasO_false {n : Nat} {L : List Cel} {p : List Int} {a b : Nat} (ha : a < n) (hb : b < n) (h : okPO n L p a b = false) : hasO n L p = false := by
  refine Bool.eq_false_iff.2 fun q => ?_
  unfold hasO at q
  simp only [List.all_eq_true, List.mem_range] at q
  have := q a ha b hb
  unfold okPO at h
  rw [this] at h
  cases h
def hasR (N : Int) (L : List Cel) (l : List Int) : Bool × Option Int :=
  match oErr N L with
  | some e => (false, some e)
  | none => if (l.length : Int) ≠ N then (false, some 3) else if (l.any zfar) = true then (false, some 2) else (hasO (2 * N).toNat L l, none)
set_option maxRecDepth 100000 in
set_option maxHeartbeats 4000000 in
theorem zhas_any [EA] (A : Option Addr) (n c : Nat) (N : Int) (L : List Cel) (B : Option Addr) (m cb : Nat) (l : List Int) (w : World) (hz : RCel w A n L) (hl : RInts w B m l) (h2 : ErrAt 2 1 w) (h3 : ErrAt 3 0 w) (h7 : ErrAt 7 3 w) :
    Calls Tryd.prog 45 #[.agg #[.int .i64 N, .slice A n c], .slice B m cb] w (HPost (hasR N L l) w) := by
  have HL := Lib.hid hz.1
  have HZ := Lib.hid hz
  have HI := Lib.hid hl
  have HLl := Lib.hid hl.1
  have HE3 := Lib.hid h3
  have HE2 := Lib.hid h2
  have hv := fun W (h : Below w.heap.size w W) => zvalid_any A n c N L W (hz.below h) (h2.below h) (h3.below h) (h7.below h)
  obtain ⟨R, hR⟩ : ∃ R, R = hasR N L l := ⟨_, rfl⟩
  rw [← hR]
  have l3 := h3.lt
  have l2 := h2.lt
  clear hz h2 h3 h7 hl
  have H0 : Hid (Cell2 (w.alloc (.cells #[.int .i64 N, .slice A n c] 74)) w.heap.size (.int .i64 N) (.slice A n c)) := Cell2.new w _ _ _
  have HW : Hid (Below w.heap.size w (w.alloc (.cells #[.int .i64 N, .slice A n c] 74))) := Go.Proofs.Rcn.below_alloc (Below.refl _ _) _
  cases hE : oErr N L with
  | some er =>
    obtain rfl : R = (false, some er) := by rw [hR]; unfold hasR; rw [hE]
    rw [hE] at hv
    have HV := Lib.hid hv
    clear hE hR hv
    go_enter Tryd.func45, Tryd.ntmps45
    go_wp2_with fail
    refine (HV.out _ HW.out).mono ?_
    rintro e w1 ⟨rfl, hb1⟩
    have HW1 := Lib.hid (below_then HW.out hb1)
    clear hb1
    simp only [errW_some]
    go_wp2
    exact bodyPost_ret (v := .tuple #[.bool false, errW (some er)]) (by simp [results, Tryd.results45, go_sem, errW_some]) rfl ⟨rfl, by repeat (first | exact HW1.out | refine Go.Proofs.Rcn.below_drew ?_)⟩
  | none =>
    obtain ⟨n1, hn1, h15, hlen, hbad, hfar, hcoh⟩ := oErr_none hE
    clear hbad hfar hcoh
    rw [hE] at hv
    have HV := Lib.hid hv
    have HN := Lib.hid hn1
    have HLen := Lib.hid hlen
    clear hv hn1 hlen
    by_cases hml : (m : Int) = N
    · obtain ⟨f, hf⟩ : ∃ f, f = l.any zfar := ⟨_, rfl⟩
      have hm : m ≤ 4611686018427387904 := by have := HN.out; omega
      have hcont := fun W (hb : Below w.heap.size w W) => icont_any 106 #[] (fun args w => by rfl) zfar B m cb l W (HI.out.below hb) hm (fun W x _ => (zfar_any x W).mono fun e w' q => ⟨q.1, by rw [q.2]; exact Below.refl _ _⟩)
      rw [← hf] at hcont
      have HCt := Lib.hid hcont
      clear hcont
      have hd1 : decide ((m : Int) = N) = true := decide_eq_true hml
      cases f with
      | true =>
        obtain rfl : R = (false, some 2) := by rw [hR]; unfold hasR; rw [hE]; simp only; rw [if_neg (by rw [HLl.out]; exact fun q => q hml), if_pos hf.symm]
        clear hE hR hf
        go_enter Tryd.func45, Tryd.ntmps45
        go_wp2_with fail
        refine (HV.out _ HW.out).mono ?_
        rintro e w1 ⟨rfl, hb1⟩
        have HW1 := Lib.hid (below_then HW.out hb1)
        obtain ⟨bl, b0, b1, bf0, bf1⟩ := H0.out.below hb1
        clear hb1
        simp only [errW_none]
        go_wp2_with fail
        refine (HCt.out _ HW1.out).mono ?_
        rintro e w2 ⟨rfl, hb2⟩
        have HW2 := Lib.hid (below_then HW1.out hb2)
        have e3 := (HE2.out.below HW2.out).cell
        have e3l := (HE2.out.below HW2.out).lt
        clear hb2
        go_wp2_with fail
        go_region
        all_goals (try go_wp2)
        all_goals exact bodyPost_ret (v := .tuple #[.bool false, errW (some 2)]) (by simp [results, Tryd.results45, go_sem, errW_some]) rfl ⟨rfl, by repeat (first | exact HW2.out | refine Go.Proofs.Rcn.below_drew ?_)⟩
      | false =>
        have hmn : 2 * m = n1 := by have := HN.out; omega
        obtain ⟨T, hT⟩ : ∃ T, T = hasO n1 L l := ⟨_, rfl⟩
        obtain rfl : R = (T, none) := by
          rw [hR]; unfold hasR; rw [hE]; simp only; rw [if_neg (by rw [HLl.out]; exact fun q => q hml), if_neg (by rw [← hf]; decide), hT, show (2 * N).toNat = n1 by have := HN.out; omega]
        have HT := Lib.hid hT
        have hL2 : n = n1 * n1 := by rw [← HL.out]; exact HLen.out
        have HL2 := Lib.hid hL2
        have hlen2 : n ≤ 64 := by rw [hL2]; exact Nat.mul_le_mul h15 h15
        have hpb : ∀ k, -1099511627776 ≤ l.getD k 0 ∧ l.getD k 0 ≤ 1099511627776 := by
          intro k
          rcases Nat.lt_or_ge k l.length with h | h
          · have hmem : l.getD k 0 ∈ l := by rw [List.getD_eq_getElem?_getD, List.getElem?_eq_getElem h]; exact List.getElem_mem h
            have hz2 : zfar (l.getD k 0) = false := by
              have h2 := Bool.eq_false_iff.1 hf.symm
              exact Bool.eq_false_iff.2 fun h3 => h2 (List.any_eq_true.2 ⟨_, hmem, h3⟩)
            unfold zfar at hz2
            have := of_decide_eq_false hz2
            omega
          · rw [List.getD_eq_getElem?_getD, List.getElem?_eq_none h]; simp
        have hvb : ∀ k, -1099511627776 ≤ valO l k ∧ valO l k ≤ 1099511627776 := by
          intro k
          have := hpb (k / 2)
          unfold valO
          split <;> omega
        have HPb := Lib.hid hpb
        have HVb := Lib.hid hvb
        clear hE hR hf hT hL2 hpb hvb
        go_enter Tryd.func45, Tryd.ntmps45
        go_wp2_with fail
        refine (HV.out _ HW.out).mono ?_
        rintro e w1 ⟨rfl, hb1⟩
        have HW1 := Lib.hid (below_then HW.out hb1)
        have K0 := Lib.hid (H0.out.below hb1)
        obtain ⟨bl, b0, b1, bf0, bf1⟩ := K0.out
        clear hb1
        simp only [errW_none]
        go_wp2_with fail
        refine (HCt.out _ HW1.out).mono ?_
        rintro e w2 ⟨rfl, hb2⟩
        have HW2 := Lib.hid (below_then HW1.out hb2)
        have M0 := Lib.hid (K0.out.below hb2)
        clear hb2 bl b0 b1 bf0 bf1
        obtain ⟨bl, b0, b1, bf0, bf1⟩ := M0.out
        have h2m : 2 * N = (n1 : Int) := HN.out
        go_wp2
        go_loopw [27] (fun i wr => ∃ q : Nat, q ≤ n1 ∧ i = .int .i64 q ∧ Hid (Below w2.heap.size w2 wr ∧ ∀ a b, a < q → b < n1 → okPO n1 L l a b = true)) (fun i _ => n1 - (intOf i).toNat)
        case atStart => exact ⟨0, Nat.zero_le _, rfl, Below.refl _ _, fun a b h => absurd h (by omega)⟩
        case round =>
          obtain ⟨q, hq, rfl, HQ⟩ := hrel
          clear bl b0 b1 bf0 bf1
          by_cases hlt : q < n1
          · have hltz : (q : Int) < (n1 : Int) := by omega
            obtain ⟨bl, b0, b1, bf0, bf1⟩ := M0.out.below HQ.out.1
            go_wp2
            clear bl b0 b1 bf0 bf1
            go_loopw [33] (fun i wr => ∃ r : Nat, r ≤ n1 ∧ i = .int .i64 r ∧ Hid (Below w2.heap.size w2 wr ∧ ∀ b, b < r → okPO n1 L l q b = true)) (fun i _ => n1 - (intOf i).toNat)
            case atStart => exact ⟨0, Nat.zero_le _, rfl, HQ.out.1, fun b h => absurd h (by omega)⟩
            case round =>
              obtain ⟨r, hr, rfl, HV2⟩ := hrel
              by_cases hlt2 : r < n1
              · have hltz2 : (r : Int) < (n1 : Int) := by omega
                have i1 : q * n1 + r < n := by rw [HL2.out]; exact idx_lt hlt hlt2
                obtain ⟨bl, b0, b1, bf0, bf1⟩ := M0.out.below HV2.out.1
                obtain ⟨gy, oy, rfl, _⟩ := HZ.out.2 (by omega)
                obtain ⟨gp, op_, rfl, _⟩ := HI.out.2 (by omega)
                go_wp2_with fail
                refine (at_two n1 q r gy oy n c N _ HN.out h15 HL2.out hlt hlt2).mono ?_
                rintro e w5 ⟨rfl, o1, rfl⟩
                have hbo := Go.Proofs.Rcn.below_alloc HV2.out.1 o1
                have HBo := Lib.hid hbo
                obtain ⟨g', o', e', hc⟩ := (HZ.out.below (below_then HW2.out hbo)).2 (by omega)
                obtain ⟨rfl, rfl⟩ : gy = g' ∧ oy = o' := by simpa using e'
                have y0 := (hc _ i1).1
                have y1 := (hc _ i1).2
                clear hc e' bl b0 b1 bf0 bf1
                have HX := Lib.hid (fun k : Nat => HI.out.below (Go.Proofs.Rcn.below_drewN (below_then HW2.out hbo) k))
                have hv1 := HVb.out r
                have hv2 := HVb.out q
                have HO : Hid (okPO n1 L l q r = (!(cg L (q * n1 + r)).has || decide (valO l r - valO l q ≤ (cg L (q * n1 + r)).most))) := rfl
                have HNext : Hid (okPO n1 L l q r = true → ∀ b, b < r + 1 → okPO n1 L l q b = true) := fun h b hb => by
                  rcases Nat.lt_or_ge b r with h2 | h2
                  · exact HV2.out.2 b h2
                  · obtain rfl : b = r := by omega
                    exact h
                have HBad : Hid (okPO n1 L l q r = false → T = false) := fun h => by rw [HT.out]; exact hasO_false hlt hlt2 h
                have HC1 := Lib.hid (fun k : Nat => value_any gp op_ m cb l r _ (HX.out k) (by omega) (by omega) HPb.out)
                have HC2 := Lib.hid (fun k : Nat => value_any gp op_ m cb l q _ (HX.out k) (by omega) (by omega) HPb.out)
                generalize valO l r = pr at hv1 HO HC1
                generalize valO l q = pq at hv2 HO HC2
                generalize okPO n1 L l q r = ok at HO HNext HBad
                generalize cg L (q * n1 + r) = y at y0 y1 HO
                obtain ⟨yh, ym⟩ := y
                simp only at y0 y1
                clear hbo
                cases yh with
                | false =>
                  have hok : ok = true := HO.out
                  go_wp2_with fail
                  go_quiet (fail)
                  go_wp2
                  exact ⟨⟨r + 1, by omega, by go_num, Go.Proofs.Rcn.below_drewN HBo.out _, HNext.out hok⟩, by simp [intOf]; omega⟩
                | true =>
                  by_cases hc : ym < pr - pq
                  · have hc' : decide (ym < pr - pq) = true := decide_eq_true hc
                    obtain rfl : T = false := HBad.out (by rw [HO.out]; simp; omega)
                    go_wp2_with fail
                    go_quiet (first | (go_at_call 108; with_reducible exact Calls.quiet_of_same (HC1.out _)) | (go_at_call 108; with_reducible exact Calls.quiet_of_same (HC2.out _)))
                    go_wp2
                    exact bodyPost_ret (v := .tuple #[.bool false, errW none]) (by simp [results, Tryd.results45, go_sem, errW_none]) rfl ⟨rfl, by exact below_then HW2.out (Go.Proofs.Rcn.below_drewN HBo.out _)⟩
                  · have hc' : decide (ym < pr - pq) = false := decide_eq_false hc
                    have hok : ok = true := by rw [HO.out]; simp; omega
                    go_wp2_with fail
                    go_quiet (first | (go_at_call 108; with_reducible exact Calls.quiet_of_same (HC1.out _)) | (go_at_call 108; with_reducible exact Calls.quiet_of_same (HC2.out _)))
                    go_wp2
                    exact ⟨⟨r + 1, by omega, by go_num, Go.Proofs.Rcn.below_drewN HBo.out _, HNext.out hok⟩, by simp [intOf]; omega⟩
              · obtain rfl : r = n1 := by omega
                have HAll : Hid (∀ a b, a < q + 1 → b < r → okPO r L l a b = true) := fun a b ha hb => by
                  rcases Nat.lt_or_ge a q with h2 | h2
                  · exact HQ.out.2 a b h2 hb
                  · obtain rfl : a = q := by omega
                    exact HV2.out.2 b hb
                go_wp2
                exact ⟨⟨q + 1, by omega, by go_num, HV2.out.1, HAll.out⟩, by simp [intOf]; omega⟩
          · obtain rfl : q = n1 := by omega
            obtain rfl : T = true := by rw [HT.out]; exact hasO_true HQ.out.2
            go_wp2
            exact bodyPost_ret (v := .tuple #[.bool true, errW none]) (by simp [results, Tryd.results45, go_sem, errW_none]) rfl ⟨rfl, below_then HW2.out HQ.out.1⟩
    · have hne : ¬ (N = (m : Int)) := fun e => hml e.symm
      have hd1 : decide ((m : Int) = N) = false := decide_eq_false hml
      obtain rfl : R = (false, some 3) := by rw [hR]; unfold hasR; rw [hE]; simp only; rw [if_pos (by rw [HLl.out]; exact hml)]
      clear hE hR
      go_enter Tryd.func45, Tryd.ntmps45
      go_wp2_with fail
      refine (HV.out _ HW.out).mono ?_
      rintro e w1 ⟨rfl, hb1⟩
      have HW1 := Lib.hid (below_then HW.out hb1)
      obtain ⟨bl, b0, b1, bf0, bf1⟩ := H0.out.below hb1
      have e3 := (HE3.out.below HW1.out).cell
      have e3l := (HE3.out.below HW1.out).lt
      clear hb1
      simp only [errW_none]
      go_wp2_with fail
      go_region
      all_goals (try go_wp2)
      all_goals exact bodyPost_ret (v := .tuple #[.bool false, errW (some 3)]) (by simp [results, Tryd.results45, go_sem, errW_some]) rfl ⟨rfl, by repeat (first | exact HW1.out | refine Go.Proofs.Rcn.below_drew ?_)⟩
theorem octagon_Has.calls [EA] (a0_0 : Int) (A0_1 : Option Addr) (c0_1 : Nat) (l0_1 : List OC) (A1 : Option Addr) (c1 : Nat) (l1 : List Int) (r1 : Bool) (r2 : Option Int) (w : World) (hr0_1 : Kd.C k146 w A0_1 l0_1.length l0_1) (hc0_1 : l0_1.length ≤ c0_1) (hr1 : Kd.C (Kd.int .i64) w A1 l1.length l1) (hc1 : l1.length ≤ c1) (h : octagon_Has.f a0_0 l0_1 l1 = some (r1, r2)) (h2_ : ErrAt 2 1 w) (h3_ : ErrAt 3 0 w) (h7_ : ErrAt 7 3 w) :
    Calls Tryd.prog 45 #[.agg #[.int .i64 a0_0, .slice A0_1 l0_1.length c0_1], .slice A1 l1.length c1] w fun e w' => e = .returned (.tuple #[.bool r1, errW r2]) ∧ Below w.heap.size w w' := by
  have e : hasR a0_0 (ocels l0_1) l1 = (r1, r2) := by
    unfold octagon_Has.f at h
    unfold hasR
    cases hE : oErr a0_0 (ocels l0_1) with
    | some er => rw [hE] at h; exact Option.some.inj h
    | none =>
      rw [hE] at h
      simp only at h ⊢
      by_cases c1 : (l1.length : Int) ≠ a0_0
      · rw [if_pos c1] at h ⊢; exact Option.some.inj h
      · rw [if_neg c1] at h ⊢
        by_cases c2 : (l1.any zfar) = true
        · rw [if_pos c2] at h ⊢; exact Option.some.inj h
        · rw [if_neg c2] at h ⊢; exact Option.some.inj h
  have q := zhas_any A0_1 l0_1.length c0_1 a0_0 (ocels l0_1) A1 l1.length c1 l1 w (rcel_of_C hr0_1) (rints_of_C hr1) h2_ h3_ h7_
  rw [e] at q
  exact q
end Go.Proofs.Rco
