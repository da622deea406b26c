import Derived.Test.YtcalcnfppnbooaaDoorOxZk
/- Package zone: has it a point? -/
set_option linter.unusedVariables false
set_option linter.unusedSimpArgs false
namespace Go.Proofs.Rcg
open Go Go.RowKit Go.Proofs.Rcn Go.Proofs.YtcalcnfppnbooaaDoor.Z Go.Proofs.YtcalcnfppnbooaaDoorW.PrintWords

theorem info_int64 : (Tryd.prog.info? 3).map (fun i => (i.zero, i.size, i.bytes)) = some (some (.int .i64 0), 1, 8) := by kernel_rfl
def ivs (xs : List Int) : List Value := xs.map fun x => .int .i64 x
theorem ivs_one (xs : List Int) : ∀ u ∈ ivs xs, u.oneCell' = true := by
  intro u hu
  obtain ⟨x, _, rfl⟩ := List.mem_map.1 hu
  rfl
theorem ivs_own {w : World} {base n : Nat} {v : Value} {xs : List Int} (h : w.ownsRow base 3 1 v n (ivs xs)) : ∃ A c, v = .slice A n c ∧ RInts w A n xs := by
  have hl : xs.length = n := by have := h.1; simp [ivs] at this; exact this
  rcases h.2 with ⟨rfl, rfl⟩ | ⟨g, cap, cur, rfl, _⟩
  · exact ⟨none, 0, rfl, hl, fun h => absurd h (by omega)⟩
  · refine ⟨_, cap, rfl, hl, fun hn => ⟨g, 0, rfl, fun j hj => ?_⟩⟩
    rw [World.ownsRow.cellAt h (0 + j) (by omega)]
    simp [ivs, List.getD_eq_getElem?_getD, List.getElem?_eq_getElem (show j < xs.length by omega)]
theorem ivs_news {w : World} {g o n : Nat} {xs : List Int} (h : RInts w (some ⟨g, o, none⟩) n xs) : ∀ j u, (ivs xs)[j]? = some u → w.cell? ((⟨g, o, none⟩ : Addr).add j) = some u := by
  intro j u hu
  have hj : j < xs.length := by
    have := (List.getElem?_eq_some_iff.1 hu).1
    simpa [ivs] using this
  obtain ⟨g', o', e, hc⟩ := h.2 (by have := h.1; omega)
  simp only [Option.some.injEq, Addr.mk.injEq, and_true] at e
  obtain ⟨rfl, rfl⟩ := e
  rw [Addr.add_lit, hc j (by have := h.1; omega), ← hu]
  simp [ivs, List.getD_eq_getElem?_getD, List.getElem?_eq_getElem hj]
theorem ivs_made (w : World) (base : Nat) (hb : base ≤ w.heap.size) (x : Int) : (w.alloc (.cells #[.int .i64 x] 3)).ownsRow base 3 1 (.slice (some ⟨w.heap.size, 0, none⟩) 1 1) 1 (ivs [x]) :=
  ⟨by simp [ivs], .inr ⟨w.heap.size, 1, #[.int .i64 x], rfl, hb, heap_alloc_new w _, Nat.le_refl _, by decide, rfl, by simp [ivs]⟩⟩
theorem append_rints {ops : Array Oper} {rest : List Oper} {o : Oper} {a : Act} {Q : Exit → Act → World → Prop} {w : World} (hgd : o.guard = none) (s x : Operand)
    (ho : o.op = .call { callee := .builtin .append, args := #[s, x], argTypes := #[25, 25] }) (base : Nat) (v : Value) (n : Nat) (xs : List Int) (hs : a.eval s = v) (hown : w.ownsRow base 3 1 v n (ivs xs))
    (B : Option Addr) (m c : Nat) (l : List Int) (hx : a.eval x = .slice B m c) (hr : RInts w B m l) (hm : n + m ≤ 1000) (hbase : base ≤ w.heap.size)
    (h : ∀ v' w', w'.ownsRow base 3 1 v' (n + m) (ivs (xs ++ l)) → w.grownBy w' v.ownBlock → wpList Tryd.prog ops Q rest (a.put o.dst v') w') : wpList Tryd.prog ops Q (o :: rest) a w := by
  obtain ⟨i0, hi, hz0, hz1, hz2⟩ := info_parts info_int64
  have hl := hr.1
  cases B with
  | none =>
    obtain rfl : m = 0 := by
      rcases Nat.eq_zero_or_pos m with h | h
      · exact h
      · obtain ⟨_, _, e, _⟩ := hr.2 h
        cases e
    obtain rfl : l = [] := List.eq_nil_of_length_eq_zero hl
    have hrun : (Builtin.append_ #[25, 25] o.type #[v, .slice none 0 c]).run Tryd.prog w = .ok v w := by
      rcases hown.2 with ⟨rfl, hn⟩ | ⟨g, cap, cur, rfl, _, _, hnc, _⟩
      · simp [Builtin.append_, run_underlying Tryd.underlying25, sizeOf, typeInfo, hi, Builtin.lenOf, Builtin.firstCells]
      · simp [Builtin.append_, run_underlying Tryd.underlying25, sizeOf, typeInfo, hi, Builtin.lenOf, Builtin.firstCells, hnc, storeCells]
    refine wpList_plain hgd fun K hK => ?_
    unfold Oper.wp
    simp [execOp, ho, resolve, invoke, builtin, hs, hx, hrun, Result.andThen]
    exact hK _ _ (h v w (by simpa using hown) (World.grownBy.refl _ _))
  | some ad =>
    obtain ⟨gb, ob, sb⟩ := ad
    refine wpList_append_own _ hgd s x 25 ho base 3 i0 (.int .i64 0) 1 8 Tryd.underlying25 hi hz0 hz1 hz2 rfl (by decide) v n (ivs xs) hs hown ⟨gb, ob, sb⟩ m c (ivs l) hx (by simp [ivs, hl]) ?_ (ivs_one l) (by simp only [maxLen]; omega) (by omega) hbase ?_
    · intro j u hu
      have hj : j < l.length := by
        have := (List.getElem?_eq_some_iff.1 hu).1
        simpa [ivs] using this
      obtain ⟨g', o', e, _⟩ := hr.2 (by omega)
      simp only [Option.some.injEq, Addr.mk.injEq] at e
      obtain ⟨rfl, rfl, rfl⟩ := e
      exact ivs_news hr j u hu
    · intro v' w' h2 h3 _
      exact h v' w' (by rw [show ivs (xs ++ l) = ivs xs ++ ivs l by simp [ivs]]; exact h2) h3
def okP (n : Nat) (L : List Cel) (p : List Int) (i j : Nat) : Bool := !(cg L (i * n + j)).has || decide (p.getD j 0 - p.getD i 0 ≤ (cg L (i * n + j)).most)
theorem hasAll_true {n : Nat} {L : List Cel} {p : List Int} (h : ∀ a b, a < n → b < n → okP n L p a b = true) : hasAll n L p = true := by
  unfold hasAll
  simp only [List.all_eq_true, List.mem_range]
  intro a ha b hb
  exact h a b ha hb
theorem hasAll_false {n : Nat} {L : List Cel} {p : List Int} {a b : Nat} (ha : a < n) (hb : b < n) (h : okP n L p a b = false) : hasAll n L p = false := by
  refine Bool.eq_false_iff.2 fun q => ?_
  unfold hasAll at q
  simp only [List.all_eq_true, List.mem_range] at q
  have := q a ha b hb
  unfold okP at h
  rw [this] at h
  cases h
def HPost [EA] (R : Bool × Option Int) (w : World) (e : Ending) (w' : World) : Prop := e = .returned (.tuple #[.bool R.1, errW R.2]) ∧ Below w.heap.size w w'
def hasR (N : Int) (L : List Cel) (l : List Int) : Bool × Option Int :=
  match zErr N L with
  | some e => (false, some e)
  | none => if (l.length : Int) ≠ N then (false, some 3) else if (l.any zfar) = true then (false, some 2) else (hasAll (N + 1).toNat L (0 :: l), none)
set_option maxRecDepth 100000 in
set_option maxHeartbeats 4000000 in
theorem zhas_any [EA] (A : Option Addr) (n c : Nat) (N : Int) (L : List Cel) (B : Option Addr) (m cb : Nat) (l : List Int) (w : World) (hz : RCel w A n L) (hl : RInts w B m l) (h2 : ErrAt 2 1 w) (h3 : ErrAt 3 0 w) :
    Calls Tryd.prog 18 #[.agg #[.int .i64 N, .slice A n c], .slice B m cb] w (HPost (hasR N L l) w) := by
  have HL := Lib.hid hz.1
  have HZ := Lib.hid hz
  have HI := Lib.hid hl
  have HLl := Lib.hid hl.1
  have HE3 := Lib.hid h3
  have HE2 := Lib.hid h2
  have hv := fun W (h : Below w.heap.size w W) => zvalid_any A n c N L W (hz.below h) (h2.below h) (h3.below h)
  obtain ⟨R, hR⟩ : ∃ R, R = hasR N L l := ⟨_, rfl⟩
  rw [← hR]
  have l3 := h3.lt
  have l2 := h2.lt
  clear hz h2 h3 hl
  have H0 : Hid (Cell2 (w.alloc (.cells #[.int .i64 N, .slice A n c] 30)) w.heap.size (.int .i64 N) (.slice A n c)) := Cell2.new w _ _ _
  have HW : Hid (Below w.heap.size w (w.alloc (.cells #[.int .i64 N, .slice A n c] 30))) := Go.Proofs.Rcn.below_alloc (Below.refl _ _) _
  cases hE : zErr N L with
  | some er =>
    obtain rfl : R = (false, some er) := by rw [hR]; unfold hasR; rw [hE]
    rw [hE] at hv
    have HV := Lib.hid hv
    clear hE hR hv
    go_enter Tryd.func18, Tryd.ntmps18
    go_wp2_with fail
    refine (HV.out _ HW.out).mono ?_
    rintro e w1 ⟨rfl, hb1⟩
    have HW1 := Lib.hid (below_then HW.out hb1)
    clear hb1
    simp only [errW_some]
    go_wp2
    exact bodyPost_ret (v := .tuple #[.bool false, errW (some er)]) (by simp [results, Tryd.results18, go_sem, errW_some]) rfl ⟨rfl, by repeat (first | exact HW1.out | refine Go.Proofs.Rcn.below_drew ?_)⟩
  | none =>
    obtain ⟨n1, hn1, h11, h15, hlen, hbad, hfar⟩ := zErr_none hE
    clear hbad hfar
    rw [hE] at hv
    have HV := Lib.hid hv
    have HN := Lib.hid hn1
    have HLen := Lib.hid hlen
    clear hv hn1 hlen
    by_cases hml : (m : Int) = N
    · obtain ⟨f, hf⟩ : ∃ f, f = l.any zfar := ⟨_, rfl⟩
      have hm : m ≤ 4611686018427387904 := by have := HN.out; omega
      have htell : Tells 84 #[] zfar w := fun W x _ => (zfar_any x W).mono fun e w' q => ⟨q.1, by rw [q.2]; exact Below.refl _ _⟩
      have hcont := fun W (hb : Below w.heap.size w W) => icont_any 84 #[] (fun args w => by rfl) zfar B m cb l W (HI.out.below hb) hm (fun W x _ => (zfar_any x W).mono fun e w' q => ⟨q.1, by rw [q.2]; exact Below.refl _ _⟩)
      rw [← hf] at hcont
      have HCt := Lib.hid hcont
      clear hcont htell
      have hd1 : decide ((m : Int) = N) = true := decide_eq_true hml
      cases f with
      | true =>
        obtain rfl : R = (false, some 2) := by rw [hR]; unfold hasR; rw [hE]; simp only; rw [if_neg (by rw [HLl.out]; exact fun q => q hml), if_pos hf.symm]
        clear hE hR hf
        go_enter Tryd.func18, Tryd.ntmps18
        go_wp2_with fail
        refine (HV.out _ HW.out).mono ?_
        rintro e w1 ⟨rfl, hb1⟩
        have HW1 := Lib.hid (below_then HW.out hb1)
        obtain ⟨bl, b0, b1, bf0, bf1⟩ := H0.out.below hb1
        clear hb1
        simp only [errW_none]
        go_wp2_with fail
        refine (HCt.out _ HW1.out).mono ?_
        rintro e w2 ⟨rfl, hb2⟩
        have HW2 := Lib.hid (below_then HW1.out hb2)
        have e3 := (HE2.out.below HW2.out).cell
        have e3l := (HE2.out.below HW2.out).lt
        clear hb2
        go_wp2_with fail
        go_region
        all_goals (try go_wp2)
        all_goals exact bodyPost_ret (v := .tuple #[.bool false, errW (some 2)]) (by simp [results, Tryd.results18, go_sem, errW_some]) rfl ⟨rfl, by repeat (first | exact HW2.out | refine Go.Proofs.Rcn.below_drew ?_)⟩
      | false =>
        have hmn : m + 1 = n1 := by have := HN.out; omega
        obtain ⟨T, hT⟩ : ∃ T, T = hasAll n1 L (0 :: l) := ⟨_, rfl⟩
        obtain rfl : R = (T, none) := by
          rw [hR]; unfold hasR; rw [hE]; simp only; rw [if_neg (by rw [HLl.out]; exact fun q => q hml), if_neg (by rw [← hf]; decide), hT, show (N + 1).toNat = n1 by have := HN.out; omega]
        have HT := Lib.hid hT
        have hL2 : n = n1 * n1 := by rw [← HL.out]; exact HLen.out
        have HL2 := Lib.hid hL2
        have hlen2 : 1 ≤ n ∧ n ≤ 25 := by rw [hL2]; exact ⟨Nat.mul_le_mul h11 h11, Nat.mul_le_mul h15 h15⟩
        have hpb : ∀ k, -1099511627776 ≤ (0 :: l).getD k 0 ∧ (0 :: l).getD k 0 ≤ 1099511627776 := by
          intro k
          rcases Nat.lt_or_ge k (0 :: l).length with h | h
          · have hmem : (0 :: l).getD k 0 ∈ (0 :: l) := by rw [List.getD_eq_getElem?_getD, List.getElem?_eq_getElem h]; exact List.getElem_mem h
            rcases List.mem_cons.1 hmem with e | e
            · omega
            · have hz2 : zfar ((0 :: l).getD k 0) = false := by
                have h2 := Bool.eq_false_iff.1 hf.symm
                refine Bool.eq_false_iff.2 fun h3 => h2 (List.any_eq_true.2 ⟨_, e, h3⟩)
              unfold zfar at hz2
              have := of_decide_eq_false hz2
              omega
          · rw [List.getD_eq_getElem?_getD, List.getElem?_eq_none h]; simp
        have HPb := Lib.hid hpb
        clear hE hR hf hT hL2 hpb
        obtain ⟨i0, hi, hz0, hz1, hz2⟩ := info_parts info_int64
        obtain ⟨gy, oy, rfl, HC⟩ : ∃ g o, A = some ⟨g, o, none⟩ ∧ Hid (∀ j, j < n → w.cell? ⟨g, o + j * 2, none⟩ = some (.bool (cg L j).has) ∧ w.cell? ⟨g, o + j * 2 + 1, none⟩ = some (.int .i64 (cg L j).most)) := by
          obtain ⟨g, o, e, h⟩ := HZ.out.2 (by omega)
          exact ⟨g, o, e, h⟩
        go_enter Tryd.func18, Tryd.ntmps18
        go_wp2_with fail
        refine (HV.out _ HW.out).mono ?_
        rintro e w1 ⟨rfl, hb1⟩
        have HW1 := Lib.hid (below_then HW.out hb1)
        have K0 := Lib.hid (H0.out.below hb1)
        obtain ⟨bl, b0, b1, bf0, bf1⟩ := K0.out
        clear hb1
        simp only [errW_none]
        go_wp2_with fail
        refine (HCt.out _ HW1.out).mono ?_
        rintro e w2 ⟨rfl, hb2⟩
        have HW2 := Lib.hid (below_then HW1.out hb2)
        have M0 := Lib.hid (K0.out.below hb2)
        clear hb2 bl b0 b1 bf0 bf1
        have HX2 := Lib.hid (Go.Proofs.Rcn.below_alloc HW2.out (.cells #[.int .i64 0] 3))
        go_wp2_with (at_builtin; refine append_rints rfl (.tmp 25) (.tmp 26) rfl w2.heap.size (.slice (some ⟨w2.heap.size, 0, none⟩) 1 1) 1 [0] rfl (ivs_made w2 _ (Nat.le_refl _) 0) B m cb l rfl (HI.out.below HX2.out) (by omega) (by simp) ?_)
        intro v' w3 hown hg
        have HB23 : Hid (Below w2.heap.size w2 w3) := (Go.Proofs.Rcn.below_alloc (Below.refl _ _) _).grown hg (by simp) (by simp [Value.ownBlock])
        rw [show 1 + m = n1 by omega] at hown
        obtain ⟨A3, c3, rfl, hri3⟩ := ivs_own hown
        obtain ⟨gp, op, rfl, _⟩ := hri3.2 (by omega)
        have HI3 := Lib.hid hri3
        have HB3 := Lib.hid (below_then HW2.out HB23.out)
        clear hown hg hri3
        go_wp2
        go_loopw [30] (fun i wr => ∃ q : Nat, q ≤ n1 ∧ i = .int .i64 q ∧ Hid (Below w3.heap.size w3 wr ∧ ∀ a b, a < q → b < n1 → okP n1 L (0 :: l) a b = true)) (fun i _ => n1 - (intOf i).toNat)
        case atStart => exact ⟨0, Nat.zero_le _, rfl, Below.refl _ _, fun a b h => absurd h (by omega)⟩
        case round =>
          obtain ⟨q, hq, rfl, HQ⟩ := hrel
          by_cases hlt : q < n1
          · have hltz : (q : Int) < (n1 : Int) := by omega
            go_wp2
            go_loopw [35] (fun i wr => ∃ r : Nat, r ≤ n1 ∧ i = .int .i64 r ∧ Hid (Below w3.heap.size w3 wr ∧ ∀ b, b < r → okP n1 L (0 :: l) q b = true)) (fun i _ => n1 - (intOf i).toNat)
            case atStart => exact ⟨0, Nat.zero_le _, rfl, HQ.out.1, fun b h => absurd h (by omega)⟩
            case round =>
              obtain ⟨r, hr, rfl, HV2⟩ := hrel
              by_cases hlt2 : r < n1
              · have hltz2 : (r : Int) < (n1 : Int) := by omega
                have i1 : q * n1 + r < n := by rw [HL2.out]; exact idx_lt hlt hlt2
                have HBr := Lib.hid (below_then HB3.out HV2.out.1)
                obtain ⟨bl, b0, b1, bf0, bf1⟩ := M0.out.below (below_then HB23.out HV2.out.1)
                go_wp2_with fail
                refine (at_gen n1 q r gy oy n c N _ HN.out (by omega) (by omega) (by omega) i1 (by omega)).mono ?_
                rintro e w5 ⟨rfl, o1, rfl⟩
                have hbo := Go.Proofs.Rcn.below_alloc HV2.out.1 o1
                have y0 := cell_below (below_then HB3.out hbo) (HC.out _ i1).1
                have y1 := cell_below (below_then HB3.out hbo) (HC.out _ i1).2
                obtain ⟨gp', op', ep, xc⟩ := HI3.out.2 (by omega)
                simp only [Option.some.injEq, Addr.mk.injEq, and_true] at ep
                obtain ⟨rfl, rfl⟩ := ep
                have x1 := cell_below hbo (xc r hlt2)
                have x2 := cell_below hbo (xc q hlt)
                have hp1 := HPb.out r
                have hp2 := HPb.out q
                have HO : Hid (okP n1 L (0 :: l) q r = (!(cg L (q * n1 + r)).has || decide (((0 :: l)).getD r 0 - ((0 :: l)).getD q 0 ≤ (cg L (q * n1 + r)).most))) := rfl
                have HNext : Hid (okP n1 L (0 :: l) q r = true → ∀ b, b < r + 1 → okP n1 L (0 :: l) q b = true) := fun h b hb => by
                  rcases Nat.lt_or_ge b r with h2 | h2
                  · exact HV2.out.2 b h2
                  · obtain rfl : b = r := by omega
                    exact h
                have HBad : Hid (okP n1 L (0 :: l) q r = false → T = false) := fun h => by rw [HT.out]; exact hasAll_false hlt hlt2 h
                generalize ((0 :: l)).getD r 0 = pr at x1 hp1 HO
                generalize ((0 :: l)).getD q 0 = pq at x2 hp2 HO
                generalize okP n1 L (0 :: l) q r = ok at HO HNext HBad
                generalize cg L (q * n1 + r) = y at y0 y1 HO
                obtain ⟨yh, ym⟩ := y
                simp only at y0 y1
                clear xc
                cases yh with
                | false =>
                  have hok : ok = true := HO.out
                  go_wp2_with fail
                  go_quiet (fail)
                  go_wp2
                  exact ⟨⟨r + 1, by omega, by go_num, Go.Proofs.Rcn.below_drewN hbo _, HNext.out hok⟩, by simp [intOf]; omega⟩
                | true =>
                  by_cases hc : ym < pr - pq
                  · have hc' : decide (ym < pr - pq) = true := decide_eq_true hc
                    obtain rfl : T = false := HBad.out (by rw [HO.out]; simp; omega)
                    go_wp2_with fail
                    go_quiet (fail)
                    go_wp2
                    exact bodyPost_ret (v := .tuple #[.bool false, errW none]) (by simp [results, Tryd.results18, go_sem, errW_none]) rfl ⟨rfl, by exact below_then HB3.out (Go.Proofs.Rcn.below_drewN hbo _)⟩
                  · have hc' : decide (ym < pr - pq) = false := decide_eq_false hc
                    have hok : ok = true := by rw [HO.out]; simp; omega
                    go_wp2_with fail
                    go_quiet (fail)
                    go_wp2
                    exact ⟨⟨r + 1, by omega, by go_num, Go.Proofs.Rcn.below_drewN hbo _, HNext.out hok⟩, by simp [intOf]; omega⟩
              · obtain rfl : r = n1 := by omega
                have HAll : Hid (∀ a b, a < q + 1 → b < r → okP r L (0 :: l) a b = true) := fun a b ha hb => by
                  rcases Nat.lt_or_ge a q with h2 | h2
                  · exact HQ.out.2 a b h2 hb
                  · obtain rfl : a = q := by omega
                    exact HV2.out.2 b hb
                go_wp2
                exact ⟨⟨q + 1, by omega, by go_num, HV2.out.1, HAll.out⟩, by simp [intOf]; omega⟩
          · obtain rfl : q = n1 := by omega
            obtain rfl : T = true := by rw [HT.out]; exact hasAll_true HQ.out.2
            go_wp2
            exact bodyPost_ret (v := .tuple #[.bool true, errW none]) (by simp [results, Tryd.results18, go_sem, errW_none]) rfl ⟨rfl, below_then HB3.out HQ.out.1⟩
    · have hne : ¬ (N = (m : Int)) := fun e => hml e.symm
      have hd1 : decide ((m : Int) = N) = false := decide_eq_false hml
      obtain rfl : R = (false, some 3) := by rw [hR]; unfold hasR; rw [hE]; simp only; rw [if_pos (by rw [HLl.out]; exact hml)]
      clear hE hR
      go_enter Tryd.func18, Tryd.ntmps18
      go_wp2_with fail
      refine (HV.out _ HW.out).mono ?_
      rintro e w1 ⟨rfl, hb1⟩
      have HW1 := Lib.hid (below_then HW.out hb1)
      obtain ⟨bl, b0, b1, bf0, bf1⟩ := H0.out.below hb1
      have e3 := (HE3.out.below HW1.out).cell
      have e3l := (HE3.out.below HW1.out).lt
      clear hb1
      simp only [errW_none]
      go_wp2_with fail
      go_region
      all_goals (try go_wp2)
      all_goals exact bodyPost_ret (v := .tuple #[.bool false, errW (some 3)]) (by simp [results, Tryd.results18, go_sem, errW_some]) rfl ⟨rfl, by repeat (first | exact HW1.out | refine Go.Proofs.Rcn.below_drew ?_)⟩
end Go.Proofs.Rcg
