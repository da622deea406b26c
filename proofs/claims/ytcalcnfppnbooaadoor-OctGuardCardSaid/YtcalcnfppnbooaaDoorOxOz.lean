import Derived.Test.YtcalcnfppnbooaaDoorOxOr
import Derived.Test.YtcalcnfppnbooaaDoorOxPo
import Derived.Test.YtcalcnfppnbooaaDoorOxZ24
/- Plain law: the reference's functions of octagons, as they are printed: what they come to. -/
set_option linter.unusedVariables false
set_option linter.unusedSimpArgs false
namespace Go.Proofs.Rcp
open Go.RowKit Go.Proofs.Rco Go.Proofs.Rcg Go.Proofs.Rcn Go.Proofs.YtcalcnfppnbooaaDoor.Z Go.Proofs.YtcalcnfppnbooaaDoorW.PrintWords Go.Proofs.YtcalcnfppnbooaaDoorW.PrintMore

/-- One of the errors that an octagon comes to. -/
def fewO (o : Option Int) : Prop := o = none ∨ o = some 2 ∨ o = some 3 ∨ o = some 7
theorem coded_fewO {o : Option Int} (h : fewO o) (a : Int) : L2_coded.f o a = some (decide (eN o = a)) := by
  rcases h with rfl | rfl | rfl | rfl <;> simp [L2_coded.f]
theorem few_oErr (N : Int) (L : List Cel) : fewO (oErr N L) := by
  rw [oErr_eq]
  repeat' split
  all_goals first | exact .inl rfl | exact .inr (.inl rfl) | exact .inr (.inr (.inl rfl)) | exact .inr (.inr (.inr rfl))
theorem oErr_cErr (N : Int) (L : List Cel) : oErr N L = match cErr N L (4 * N * N) with | some e => some e | none => if cohB (2 * N).toNat L = true then none else some 7 := by
  rw [oErr_eq]
  unfold cErr
  repeat' split
  all_goals first | rfl | contradiction | (simp_all; done)
theorem four64 {N : Int} {n : Nat} (hn : N = n) (h4 : n ≤ 4) : wrap64 ((wrap64 (4 * N)) * N) = 4 * N * N := by
  have h : 4 * N * N = ((4 * n * n : Nat) : Int) := by subst hn; push_cast; rfl
  have h2 : 4 * n * n ≤ 16 * 4 := Nat.mul_le_mul (by omega) h4
  rw [w64 (n := 4 * N) (by omega) (by omega), h, w64 (by omega) (by omega)]
theorem ev_OctError {N : Int} {l : List RC} (hl : l.length ≤ 1000) : Ev (fun k => R2_OctError.f k N l) (eN (oErr N (rels l))) := by
  unfold R2_OctError.f
  refine .bind (ev_cells hl) ?_
  by_cases h : N < 0 ∨ N > 4
  · have e1 : cErr N (rels l) (wrap64 ((wrap64 (4 * N)) * N)) = some 2 := by unfold cErr; rw [if_pos h]
    have e2 : oErr N (rels l) = some 2 := by rw [oErr_eq, if_pos h]
    rw [e1, e2]
    exact .pos (show (2 : Int) > 0 by decide) .some
  · obtain ⟨n, hn⟩ : ∃ n : Nat, N = n := ⟨N.toNat, by omega⟩
    rw [four64 hn (by omega), oErr_cErr]
    cases hc : cErr N (rels l) (4 * N * N) with
    | some e =>
      have : e > 0 := by
        unfold cErr at hc
        repeat' split at hc
        all_goals first | (cases hc; decide) | cases hc
      exact .pos this .some
    | none =>
      refine .neg (by decide) ?_
      have hlen : (rels l).length = 2 * n * (2 * n) := by
        unfold cErr at hc
        rw [if_neg h] at hc
        by_cases h2 : ((rels l).length : Int) ≠ 4 * N * N
        · rw [if_pos h2] at hc; cases hc
        · exact len_sq (N := N) (n := 2 * n) (by omega) (Classical.not_not.1 h2)
      rw [w64 (n := 2 * N) (by omega) (by omega), show 2 * N = ((2 * n : Nat) : Int) by omega, show ((2 * n : Nat) : Int).toNat = 2 * n from rfl]
      simp only
      rw [← rces_rels l, rels_rces]
      generalize rels l = L at hlen ⊢
      have good : ∀ (r : Int) p, p < 2 * n → (∀ b, b < 2 * n → cg L (p * (2 * n) + b) = cg L (op b * (2 * n) + op p)) → Ev (fun k => R2_OctError.l0 k ((2 * n : Nat) : Int) ((p + 1 : Nat) : Int) N (rces L)) r →
          ∀ m q : Nat, q + m = 2 * n → Ev (fun k => R2_OctError.l1 k ((2 * n : Nat) : Int) (p : Int) (q : Int) N (rces L)) r := by
        intro r p hp hr nx m
        induction m with
        | zero =>
          intro q hq
          exact Ev.step (fun k => by simp only [R2_OctError.l1, up64 (p := p) (by omega)]; rfl) (.neg (by omega) nx)
        | succ m ih =>
          intro q hq
          have hq' : q < 2 * n := by omega
          have hop := op_lt hp
          have hoq := op_lt hq'
          have i1 := idx_lt hp hq'
          have i2 := idx_lt hoq hop
          refine Ev.step (fun k => by simp only [R2_OctError.l1, bsome (other_val (i := q) (by omega)), bsome (other_val (i := p) (by omega)), ix64 (p := p) (q := q) (by omega) hp hq', ix64 (p := op q) (q := op p) (by omega) hoq hop, rdR_cg, up64 (p := q) (by omega)]; rfl) (.pos (by omega) (.pos (by omega) (.pos (by rw [rces_length, hlen]; omega) (.pos (by omega) (.pos (by rw [rces_length, hlen]; omega) (.ite (fun ht => ?_) (fun ht => ?_)))))))
          · exact absurd (hr q hq') ((ne_cel (cg L (p * (2 * n) + q)) (cg L (op q * (2 * n) + op p))).2 ht)
          · exact ih (q + 1) (by omega)
      have bad : ∀ p, p < 2 * n → ∀ m q : Nat, q + m = 2 * n → (∃ b, q ≤ b ∧ b < 2 * n ∧ cg L (p * (2 * n) + b) ≠ cg L (op b * (2 * n) + op p)) → Ev (fun k => R2_OctError.l1 k ((2 * n : Nat) : Int) (p : Int) (q : Int) N (rces L)) 7 := by
        intro p hp m
        induction m with
        | zero =>
          rintro q hq ⟨b, h1, h2, _⟩
          omega
        | succ m ih =>
          rintro q hq ⟨b, h1, h2, h3⟩
          have hq' : q < 2 * n := by omega
          have hop := op_lt hp
          have hoq := op_lt hq'
          have i1 := idx_lt hp hq'
          have i2 := idx_lt hoq hop
          refine Ev.step (fun k => by simp only [R2_OctError.l1, bsome (other_val (i := q) (by omega)), bsome (other_val (i := p) (by omega)), ix64 (p := p) (q := q) (by omega) hp hq', ix64 (p := op q) (q := op p) (by omega) hoq hop, rdR_cg, up64 (p := q) (by omega)]; rfl) (.pos (by omega) (.pos (by omega) (.pos (by rw [rces_length, hlen]; omega) (.pos (by omega) (.pos (by rw [rces_length, hlen]; omega) (.ite (fun ht => ?_) (fun ht => ?_)))))))
          · exact .some
          · have hc := (ne_cel (cg L (p * (2 * n) + q)) (cg L (op q * (2 * n) + op p))).1 (Bool.eq_false_iff.2 ht)
            refine ih (q + 1) (by omega) ⟨b, ?_, h2, h3⟩
            rcases Nat.lt_or_ge q b with h4 | h4
            · exact h4
            · obtain rfl : b = q := by omega
              exact absurd hc h3
      have outer : ∀ m p : Nat, p + m = 2 * n → (∀ a, a < p → ∀ b, b < 2 * n → cg L (a * (2 * n) + b) = cg L (op b * (2 * n) + op a)) → Ev (fun k => R2_OctError.l0 k ((2 * n : Nat) : Int) (p : Int) N (rces L)) (eN (if cohB (2 * n) L = true then none else some 7)) := by
        intro m
        induction m with
        | zero =>
          intro p hp hall
          rw [if_pos (cohB_true fun a ha b hb => hall a (by omega) b hb)]
          exact Ev.step (fun k => by simp only [R2_OctError.l0]; rfl) (.neg (by omega) .some)
        | succ m ih =>
          intro p hp hall
          have hp' : p < 2 * n := by omega
          refine Ev.step (fun k => by simp only [R2_OctError.l0]; rfl) (.pos (by omega) ?_)
          by_cases hr : ∀ b, b < 2 * n → cg L (p * (2 * n) + b) = cg L (op b * (2 * n) + op p)
          · exact good _ p hp' hr (ih (p + 1) (by omega) (fun a ha b hb => by
              rcases Nat.lt_or_ge a p with h | h
              · exact hall a h b hb
              · obtain rfl : a = p := by omega
                exact hr b hb)) (2 * n) 0 (by omega)
          · obtain ⟨b, hb⟩ := Classical.not_forall.1 hr
            obtain ⟨hb1, hb⟩ := Classical.not_forall.1 hb
            rw [if_neg (by rw [cohB_false hp' hb1 hb]; decide)]
            exact bad p hp' (2 * n) 0 (by omega) ⟨b, Nat.zero_le _, hb1, hb⟩
      exact outer (2 * n) 0 (by omega) (fun a ha => by omega)
end Go.Proofs.Rcp
