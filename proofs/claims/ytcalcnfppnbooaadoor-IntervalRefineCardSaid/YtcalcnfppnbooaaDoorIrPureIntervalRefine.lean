import Derived.Test.YtcalcnfppnbooaaDoorIrIvR
import Derived.Test.YtcalcnfppnbooaaDoorIrGl
import Derived.Test.YtcalcnfppnbooaaDoorIrR7
import Derived.Test.YtcalcnfppnbooaaDoorIrR9
import Derived.Test.YtcalcnfppnbooaaDoorIrR8
import Derived.Test.YtcalcnfppnbooaaDoorIrR10
/- Plain law: the law 'IntervalRefine' as it is printed is true, whatever it is given. -/
set_option linter.unusedVariables false
set_option linter.unusedSimpArgs false
namespace Go.Proofs.Rcp
open Go.RowKit Go.Proofs.Rcg Go.Proofs.YtcalcnfppnbooaaDoor.R Go.Proofs.YtcalcnfppnbooaaDoorW.PrintWords Go.Proofs.YtcalcnfppnbooaaDoorW.PrintMore
open Go.Proofs.Rcn (Iv)

/-- Two numbers stand so. -/
def Stands (h : List UInt8) (p q : Int) : Bool :=
  if h = [60] then decide (p < q) else if h = [60, 61] then decide (p ≤ q) else if h = [61] ∨ h = [61, 61] then p == q else if h = [33, 61] then p != q else if h = [62] then decide (p > q) else decide (p ≥ q)
theorem ev_StandsOf (h : ByteArray) (p q : Int) : Ev (fun k => R2_StandsOf.f k p h q) (Stands h.toList p q) := by
  have j : ∀ b : Bool, Ev (fun k => R2_StandsOf.j0 k p q h b) (if b = true then p == q else if h.toList = [33, 61] then p != q else if h.toList = [62] then decide (p > q) else decide (p ≥ q)) := by
    intro b
    refine Ev.step (fun k => by simp only [R2_StandsOf.j0]; rfl) ?_
    refine .ite (fun e => ?_) (fun e => ?_)
    · rw [if_pos e]; exact .some
    · rw [if_neg e]
      refine .ite (fun e => ?_) (fun e => ?_)
      · rw [if_pos e]; exact .some
      · rw [if_neg e]
        refine .ite (fun e => ?_) (fun e => ?_)
        · rw [if_pos e]; exact .some
        · rw [if_neg e]; exact .some
  unfold R2_StandsOf.f Stands
  refine .ite (fun e => ?_) (fun e => ?_)
  · rw [if_pos e]; exact .some
  rw [if_neg e]
  refine .ite (fun e => ?_) (fun e => ?_)
  · rw [if_pos e]; exact .some
  rw [if_neg e]
  refine .ite (fun e => ?_) (fun e => ?_)
  · have := j (h.toList == [61])
    rw [if_pos (by simp [e])] at this
    rw [if_pos (.inl e)]
    exact this
  · have := j (h.toList == [61, 61])
    by_cases e2 : h.toList = [61, 61]
    · rw [if_pos (by simp [e2])] at this
      rw [if_pos (.inr e2)]
      exact this
    · rw [if_neg (by simpa using e2)] at this
      rw [if_neg (fun q => q.elim e e2)]
      exact this
/-- The least and the greatest of some numbers. -/
theorem ev_span_l {l : List Int} (hl : l.length ≤ 1000) : ∀ m i : Nat, i + m = l.length → ∀ lo hi : Int, ∃ lo' hi' : Int, Ev (fun k => R2_SpanOf.l0 k l (i : Int) false false lo hi) (false, false, lo', hi', true) ∧ lo' ≤ lo ∧ hi ≤ hi' ∧ (lo' = lo ∨ lo' ∈ l) ∧ (hi' = hi ∨ hi' ∈ l) ∧ ∀ x ∈ l.drop i, lo' ≤ x ∧ x ≤ hi' := by
  intro m
  induction m with
  | zero =>
    intro i h lo hi
    refine ⟨lo, hi, Ev.step (fun k => by simp only [R2_SpanOf.l0]; rfl) (.neg (by omega) .some), Int.le_refl _, Int.le_refl _, .inl rfl, .inl rfl, fun x hx => ?_⟩
    rw [List.drop_eq_nil_of_le (by omega)] at hx
    cases hx
  | succ m ih =>
    intro i h lo hi
    have hi' : i < l.length := by omega
    have hrd : rd l (i : Int) = l[i] := by simp [rd, List.getD_eq_getElem?_getD, List.getElem?_eq_getElem hi']
    have hw : wrap64 ((i : Int) + 1) = ((i + 1 : Nat) : Int) := by rw [w64 (by omega) (by omega)]; push_cast; rfl
    have hmem : l[i] ∈ l := List.getElem_mem hi'
    have hdrop : l.drop i = l[i] :: l.drop (i + 1) := List.drop_eq_getElem_cons hi'
    have go : ∀ lo1 hi1 : Int, (lo1 = lo ∨ lo1 = l[i]) → (hi1 = hi ∨ hi1 = l[i]) → lo1 ≤ lo → hi ≤ hi1 → lo1 ≤ l[i] → l[i] ≤ hi1 → (∀ r, Ev (fun k => R2_SpanOf.l0 k l ((i + 1 : Nat) : Int) false false lo1 hi1) r → Ev (fun k => R2_SpanOf.l0 k l (i : Int) false false lo hi) r) → ∃ lo' hi' : Int, Ev (fun k => R2_SpanOf.l0 k l (i : Int) false false lo hi) (false, false, lo', hi', true) ∧ lo' ≤ lo ∧ hi ≤ hi' ∧ (lo' = lo ∨ lo' ∈ l) ∧ (hi' = hi ∨ hi' ∈ l) ∧ ∀ x ∈ l.drop i, lo' ≤ x ∧ x ≤ hi' := by
      intro lo1 hi1 a1 a2 a3 a4 a5 a6 e
      obtain ⟨lo', hi', E, b1, b2, b3, b4, b5⟩ := ih (i + 1) (by omega) lo1 hi1
      refine ⟨lo', hi', e _ E, by omega, by omega, ?_, ?_, ?_⟩
      · rcases b3 with b | b
        · rcases a1 with a | a
          · exact .inl (b.trans a)
          · exact .inr (by rw [b, a]; exact hmem)
        · exact .inr b
      · rcases b4 with b | b
        · rcases a2 with a | a
          · exact .inl (b.trans a)
          · exact .inr (by rw [b, a]; exact hmem)
        · exact .inr b
      · intro x hx
        rw [hdrop] at hx
        rcases List.mem_cons.1 hx with rfl | hx
        · omega
        · exact b5 x hx
    have c1 : (i : Int) < (l.length : Int) := by omega
    have c2 : (0 : Int) ≤ (i : Int) := by omega
    by_cases h1 : l[i] < lo
    · by_cases h2 : l[i] > hi
      · refine go l[i] l[i] (.inr rfl) (.inr rfl) (by omega) (by omega) (by omega) (by omega) fun r E => ?_
        refine Ev.step (fun k => by simp only [R2_SpanOf.l0, hrd, hw]; rfl) (.pos c1 (.pos c2 (.pos h1 (.pos h2 E))))
      · refine go l[i] hi (.inr rfl) (.inl rfl) (by omega) (by omega) (by omega) (by omega) fun r E => ?_
        refine Ev.step (fun k => by simp only [R2_SpanOf.l0, hrd, hw]; rfl) (.pos c1 (.pos c2 (.pos h1 (.neg h2 E))))
    · by_cases h2 : l[i] > hi
      · refine go lo l[i] (.inl rfl) (.inr rfl) (by omega) (by omega) (by omega) (by omega) fun r E => ?_
        refine Ev.step (fun k => by simp only [R2_SpanOf.l0, hrd, hw]; rfl) (.pos c1 (.pos c2 (.neg h1 (.pos h2 E))))
      · refine go lo hi (.inl rfl) (.inl rfl) (by omega) (by omega) (by omega) (by omega) fun r E => ?_
        refine Ev.step (fun k => by simp only [R2_SpanOf.l0, hrd, hw]; rfl) (.pos c1 (.pos c2 (.neg h1 (.neg h2 E))))
/-- The least interval of some numbers, or nothing. -/
theorem ev_SpanOf {l : List Int} (hl : l.length ≤ 1000) : (l = [] ∧ Ev (fun k => R2_SpanOf.f k l) (false, false, 0, 0, false)) ∨ ∃ lo hi : Int, Ev (fun k => R2_SpanOf.f k l) (false, false, lo, hi, true) ∧ lo ∈ l ∧ hi ∈ l ∧ ∀ x ∈ l, lo ≤ x ∧ x ≤ hi := by
  cases l with
  | nil => exact .inl ⟨rfl, .of fun k => rfl⟩
  | cons a t =>
    right
    obtain ⟨lo, hi, E, h1, h2, h3, h4, h5⟩ := ev_span_l hl (a :: t).length 0 (by omega) a a
    have ha : rd (a :: t) 0 = a := rfl
    refine ⟨lo, hi, ?_, ?_, ?_, h5⟩
    · unfold R2_SpanOf.f
      rw [ha]
      exact .neg (by simp <;> omega) (.pos (by simp <;> omega) E)
    · rcases h3 with h | h
      · rw [h]; exact List.mem_cons_self
      · exact h
    · rcases h4 with h | h
      · rw [h]; exact List.mem_cons_self
      · exact h
/-! ### The loops over all pairs -/
section
variable {h : ByteArray} {d u d' u' : Bool} {a1 a2 b1 b2 : Int}
/-- A pair that stands so. -/
def Pr (h : List UInt8) (a1 a2 b1 b2 p q : Int) : Prop := a1 ≤ p ∧ p ≤ a2 ∧ b1 ≤ q ∧ q ≤ b2 ∧ Stands h p q = true
/-- What is told of the pairs. -/
def Core (P : Int → Int → Prop) (ok : Bool) (xl xh yl yh : Int) : Prop :=
  (ok = true ∧ (∃ q, P xl q) ∧ (∃ q, P xh q) ∧ (∃ p, P p yl) ∧ (∃ p, P p yh) ∧ ∀ p q, P p q → xl ≤ p ∧ p ≤ xh ∧ yl ≤ q ∧ q ≤ yh) ∨ (ok = false ∧ xl = 0 ∧ xh = 0 ∧ yl = 0 ∧ yh = 0 ∧ ∀ p q, ¬ P p q)
theorem ref_end {P : Int → Int → Prop} {ok : Bool} {xl xh yl yh : Int} {L R : List Int} (hL : L.length ≤ 1000) (hR : R.length ≤ 1000) (mL : ∀ p, p ∈ L ↔ ∃ q, P p q) (mR : ∀ q, q ∈ R ↔ ∃ p, P p q) (c : Core P ok xl xh yl yh) :
    Ev (fun k => (R2_SpanOf.f k L).bind fun b => (R2_SpanOf.f k R).bind fun c => (if (ok == b.2.2.2.2) = true then (if (false == b.1 && (false == b.2.1 && (xl == b.2.2.1 && (xh == b.2.2.2.1)))) = true then (some (false == c.1 && (false == c.2.1 && (yl == c.2.2.1 && (yh == c.2.2.2.1))))) else none) else none)) true := by
  rcases c with ⟨rfl, ⟨q1, c1⟩, ⟨q2, c2⟩, ⟨p1, c3⟩, ⟨p2, c4⟩, c5⟩ | ⟨rfl, rfl, rfl, rfl, rfl, c5⟩
  · have l1 := (mL xl).2 ⟨q1, c1⟩
    have l2 := (mL xh).2 ⟨q2, c2⟩
    have r1 := (mR yl).2 ⟨p1, c3⟩
    have r2 := (mR yh).2 ⟨p2, c4⟩
    rcases ev_SpanOf hL with ⟨rfl, _⟩ | ⟨lo, hi, E, e1, e2, e3⟩
    · cases l1
    rcases ev_SpanOf hR with ⟨rfl, _⟩ | ⟨lo', hi', E', e1', e2', e3'⟩
    · cases r1
    have f1 := e3 _ l1
    have f2 := e3 _ l2
    have f3 := e3' _ r1
    have f4 := e3' _ r2
    obtain ⟨q, g1⟩ := (mL lo).1 e1
    obtain ⟨q', g2⟩ := (mL hi).1 e2
    obtain ⟨p, g3⟩ := (mR lo').1 e1'
    obtain ⟨p', g4⟩ := (mR hi').1 e2'
    have k1 := c5 _ _ g1
    have k2 := c5 _ _ g2
    have k3 := c5 _ _ g3
    have k4 := c5 _ _ g4
    obtain rfl : lo = xl := by omega
    obtain rfl : hi = xh := by omega
    obtain rfl : lo' = yl := by omega
    obtain rfl : hi' = yh := by omega
    refine .bind E (.bind E' (.pos rfl (.pos (by simp) ?_)))
    exact .of fun k => by simp
  · have hL0 : L = [] := List.eq_nil_iff_forall_not_mem.2 fun x hx => by obtain ⟨q, e⟩ := (mL x).1 hx; exact c5 _ _ e
    have hR0 : R = [] := List.eq_nil_iff_forall_not_mem.2 fun x hx => by obtain ⟨q, e⟩ := (mR x).1 hx; exact c5 _ _ e
    subst hL0 hR0
    exact .bind (x := (false, false, 0, 0, false)) (.of fun k => rfl) (.bind (x := (false, false, 0, 0, false)) (.of fun k => rfl) (.of fun k => rfl))
theorem ref_loop {ok : Bool} {xl xh yl yh : Int} (hA : -12 ≤ a1 ∧ a2 ≤ 12) (hB : -12 ≤ b1 ∧ b2 ≤ 12) (hab : a1 ≤ a2 ∧ b1 ≤ b2) (c : Core (Pr h.toList a1 a2 b1 b2) ok xl xh yl yh) :
    ∀ m : Nat, ∀ i : Int, a1 ≤ i → i + m = a2 + 1 → ∀ L R : List Int, (L.length : Int) ≤ 25 * (i - a1) → (R.length : Int) ≤ 25 * (i - a1) →
      (∀ p, p ∈ L ↔ ∃ q, Pr h.toList a1 a2 b1 b2 p q ∧ p < i) → (∀ q, q ∈ R ↔ ∃ p, Pr h.toList a1 a2 b1 b2 p q ∧ p < i) →
      Ev (fun k => L2_IntervalRefine.l0 k h ok L R i false false a1 a2 false false b1 b2 false false xl xh false false yl yh) true := by
  intro m
  induction m with
  | zero =>
    intro i hi1 hi L R hL hR mL mR
    refine Ev.step (fun k => by simp only [L2_IntervalRefine.l0]; rfl) (.neg (by omega) ?_)
    refine ref_end (by omega) (by omega) (fun p => ?_) (fun q => ?_) c
    · rw [mL]; exact ⟨fun ⟨q, e, _⟩ => ⟨q, e⟩, fun ⟨q, e⟩ => ⟨q, e, by have := e.2.1; omega⟩⟩
    · rw [mR]; exact ⟨fun ⟨q, e, _⟩ => ⟨q, e⟩, fun ⟨q, e⟩ => ⟨q, e, by have := e.2.1; omega⟩⟩
  | succ m ih =>
    intro i hi1 hi L R hL hR mL mR
    refine Ev.step (fun k => by simp only [L2_IntervalRefine.l0]; rfl) (.pos (by omega) ?_)
    have hw : wrap64 (i + 1) = i + 1 := w64 (by omega) (by omega)
    have inner : ∀ n : Nat, ∀ j : Int, b1 ≤ j → j + n = b2 + 1 → ∀ L R : List Int, (L.length : Int) ≤ 25 * (i - a1) + (j - b1) → (R.length : Int) ≤ 25 * (i - a1) + (j - b1) →
        (∀ p, p ∈ L ↔ ∃ q, Pr h.toList a1 a2 b1 b2 p q ∧ (p < i ∨ (p = i ∧ q < j))) → (∀ q, q ∈ R ↔ ∃ p, Pr h.toList a1 a2 b1 b2 p q ∧ (p < i ∨ (p = i ∧ q < j))) →
        Ev (fun k => L2_IntervalRefine.l1 k h ok L R i j false false a1 a2 false false b1 b2 false false xl xh false false yl yh) true := by
      intro n
      induction n with
      | zero =>
        intro j hj1 hj L R hL hR mL mR
        refine Ev.step (fun k => by simp only [L2_IntervalRefine.l1, hw]; rfl) (.neg (by omega) ?_)
        refine ih (i + 1) (by omega) (by omega) L R (by omega) (by omega) (fun p => ?_) (fun q => ?_)
        · rw [mL]
          exact ⟨fun ⟨q, e, o⟩ => ⟨q, e, by rcases o with o | o <;> omega⟩, fun ⟨q, e, o⟩ => ⟨q, e, by have := e.2.2.2.1; omega⟩⟩
        · rw [mR]
          exact ⟨fun ⟨p, e, o⟩ => ⟨p, e, by rcases o with o | o <;> omega⟩, fun ⟨p, e, o⟩ => ⟨p, e, by have := e.2.2.2.1; omega⟩⟩
      | succ n ihn =>
        intro j hj1 hj L R hL hR mL mR
        have hwj : wrap64 (j + 1) = j + 1 := w64 (by omega) (by omega)
        refine Ev.step (fun k => by simp only [L2_IntervalRefine.l1, hwj]; rfl) (.pos (by omega) (.bind (ev_StandsOf h i j) ?_))
        cases hs : Stands h.toList i j with
        | true =>
          have pij : Pr h.toList a1 a2 b1 b2 i j := ⟨hi1, by omega, hj1, by omega, hs⟩
          refine .pos rfl (.pos (by omega) (.pos (by omega) ?_))
          refine ihn (j + 1) (by omega) (by omega) _ _ (by simp; omega) (by simp; omega) (fun p => ?_) (fun q => ?_)
          · rw [List.mem_append, List.mem_singleton, mL]
            constructor
            · rintro (⟨q, e, o⟩ | rfl)
              · exact ⟨q, e, by omega⟩
              · exact ⟨j, pij, by omega⟩
            · rintro ⟨q, e, o⟩
              by_cases hp : p = i ∧ q = j
              · exact .inr hp.1
              · exact .inl ⟨q, e, by omega⟩
          · rw [List.mem_append, List.mem_singleton, mR]
            constructor
            · rintro (⟨p, e, o⟩ | rfl)
              · exact ⟨p, e, by omega⟩
              · exact ⟨i, pij, by omega⟩
            · rintro ⟨p, e, o⟩
              by_cases hp : p = i ∧ q = j
              · exact .inr hp.2
              · exact .inl ⟨p, e, by omega⟩
        | false =>
          have npij : ∀ p q, Pr h.toList a1 a2 b1 b2 p q → ¬ (p = i ∧ q = j) := by
            rintro p q e ⟨rfl, rfl⟩
            rw [e.2.2.2.2] at hs
            cases hs
          refine .neg Bool.false_ne_true ?_
          refine ihn (j + 1) (by omega) (by omega) L R (by omega) (by omega) (fun p => ?_) (fun q => ?_)
          · rw [mL]
            exact ⟨fun ⟨q, e, o⟩ => ⟨q, e, by omega⟩, fun ⟨q, e, o⟩ => ⟨q, e, by have := npij _ _ e; omega⟩⟩
          · rw [mR]
            exact ⟨fun ⟨p, e, o⟩ => ⟨p, e, by omega⟩, fun ⟨p, e, o⟩ => ⟨p, e, by have := npij _ _ e; omega⟩⟩
    refine inner (b2 + 1 - b1).toNat b1 (Int.le_refl _) (by omega) L R (by omega) (by omega) (fun p => ?_) (fun q => ?_)
    · rw [mL]
      exact ⟨fun ⟨q, e, o⟩ => ⟨q, e, .inl o⟩, fun ⟨q, e, o⟩ => ⟨q, e, by have := e.2.2.1; omega⟩⟩
    · rw [mR]
      exact ⟨fun ⟨p, e, o⟩ => ⟨p, e, .inl o⟩, fun ⟨p, e, o⟩ => ⟨p, e, by have := e.2.2.1; omega⟩⟩
end

/-! ### What 'Refine' tells -/
def okI (a : Iv) : Prop := a.down = false → a.up = false → a.low ≤ a.high
theorem clip_same {d u : Bool} {l h : Int} (v : IV d u l h) : Ev (fun k => interval_clip.f k d u l h) (d, u, l, h) := by
  refine ⟨5, fun k hk => ?_⟩
  obtain ⟨j, rfl⟩ : ∃ j, k = j + 5 := ⟨k - 5, by omega⟩
  have h1 := v.l1; have h2 := v.l2; have h3 := v.h1; have h4 := v.h2; have h5 := v.d0; have h6 := v.u0
  have e1 : ¬ l < -1099511627776 := by omega
  have e2 : ¬ h > 1099511627776 := by omega
  have e3 : ¬ l > 1099511627776 := by omega
  have e4 : ¬ h < -1099511627776 := by omega
  unfold interval_clip.f
  simp only [interval_clip.j0, interval_clip.j1, interval_clip.j2, interval_clip.j3, interval_clip.j4, decide_eq_false e1, decide_eq_false e2, decide_eq_false e3, if_neg e4]
  cases d <;> cases u
  · simp
  · simp [h6 rfl]
  · simp [h5 rfl]
  · simp [h5 rfl, h6 rfl]
theorem clip_valid {d u : Bool} {l h : Int} (v : okI ⟨d, u, l, h⟩) : ∃ d' u' l' h', Ev (fun k => interval_clip.f k d u l h) (d', u', l', h') ∧ IV d' u' l' h' := by
  obtain ⟨r, hr⟩ : ∃ r, interval_clip.f 5 d u l h = r := ⟨_, rfl⟩
  have key : ∃ d' u' l' h', r = some (d', u', l', h') ∧ IV d' u' l' h' := by
    rw [← hr]
    unfold interval_clip.f
    unfold okI at v
    simp only at v
    simp only [interval_clip.j0, interval_clip.j1, interval_clip.j2, interval_clip.j3, interval_clip.j4]
    cases d <;> cases u <;> simp only [Bool.false_eq_true, if_true, if_false, decide_eq_true_eq, forall_const, false_implies, reduceCtorEq] at v ⊢ <;> (repeat' split) <;> refine ⟨_, _, _, _, rfl, ?_⟩ <;> constructor <;> simp_all <;> omega
  obtain ⟨d', u', l', h', e, q⟩ := key
  exact ⟨d', u', l', h', Ev.mono (k := 5) (fun k r e => interval_clip.mono d u l h k r e) (hr.trans e), q⟩
theorem without_val {a : Iv} {n : Int} (hl : -1099511627776 ≤ a.low ∧ a.low ≤ 1099511627776) (hh : -1099511627776 ≤ a.high ∧ a.high ≤ 1099511627776) :
    Ev (fun k => interval_without.f k a.down a.up a.low a.high n) ((ivWithout a n).1.down, (ivWithout a n).1.up, (ivWithout a n).1.low, (ivWithout a n).1.high, (ivWithout a n).2) := by
  refine ⟨2, fun k hk => ?_⟩
  obtain ⟨j, rfl⟩ : ∃ j, k = j + 2 := ⟨k - 2, by omega⟩
  obtain ⟨d, u, l, h⟩ := a
  simp only at hl hh
  unfold interval_without.f ivWithout zeroI
  simp only [interval_without.j0, interval_without.j1, w64 (n := l + 1) (by omega) (by omega), w64 (n := h - 1) (by omega) (by omega)]
  cases d <;> cases u <;> simp <;> (repeat' split) <;> simp_all
def single (a : Iv) : Bool := !a.down && !a.up && a.low == a.high
def swp (r : Iv × Iv × Bool) : Iv × Iv × Bool := (r.2.1, r.1, r.2.2)
def refC (h : List UInt8) (a b : Iv) : Iv × Iv × Bool :=
  if h = [60] then ivLess a b 1 else if h = [60, 61] then ivLess a b 0 else if h = [62] then swp (ivLess b a 1) else if h = [62, 61] then swp (ivLess b a 0) else if h = [61] then ((ivMeet a b).1, (ivMeet a b).1, (ivMeet a b).2)
  else if single b = true then ((ivWithout a b.low).1, b, (ivWithout a b.low).2) else if single a = true then (a, (ivWithout b a.low).1, (ivWithout b a.low).2) else (a, b, true)
def known (h : List UInt8) : Prop := h = [60] ∨ h = [60, 61] ∨ h = [62] ∨ h = [62, 61] ∨ h = [61] ∨ h = [33, 61]
theorem one_val (a : Iv) : interval_Refine_1.f a.down a.up a.low a.high = some (single a) := by
  unfold interval_Refine_1.f single
  cases a.down <;> cases a.up <;> rfl
theorem less_val {a b : Iv} {c : Int} (hc : 0 ≤ c ∧ c ≤ 1) (hl : -1099511627776 ≤ a.low ∧ a.low ≤ 1099511627776) (hh : -1099511627776 ≤ b.high ∧ b.high ≤ 1099511627776) :
    interval_less.f a.down a.up a.low a.high b.down b.up b.low b.high c = some ((ivLess a b c).1.down, (ivLess a b c).1.up, (ivLess a b c).1.low, (ivLess a b c).1.high, (ivLess a b c).2.1.down, (ivLess a b c).2.1.up, (ivLess a b c).2.1.low, (ivLess a b c).2.1.high, (ivLess a b c).2.2) := by
  unfold interval_less.f
  rw [if_pos ⟨hc, hl, hh⟩]
/-- Behind the kind. -/
def refE (r : Iv × Iv × Bool) (X : Bool × Bool × Int × Int × Bool × Bool × Int × Int × Bool × Option Int) : Prop :=
  Ev (fun k => interval_Refine.j0 k r.2.2 r.1.down r.1.up r.1.low r.1.high r.2.1.down r.2.1.up r.2.1.low r.2.1.high) X
theorem ev_Refine {a b : Iv} {h : ByteArray} (va : IV a.down a.up a.low a.high) (vb : IV b.down b.up b.low b.high) (hk : known h.toList) {X : Bool × Bool × Int × Int × Bool × Bool × Int × Int × Bool × Option Int} (e : refE (refC h.toList a b) X) :
    Ev (fun k => interval_Refine.f k a.down a.up a.low a.high b.down b.up b.low b.high h) X := by
  have la := And.intro va.l1 va.l2
  have ha := And.intro va.h1 va.h2
  have lb := And.intro vb.l1 vb.l2
  have hb := And.intro vb.h1 vb.h2
  unfold interval_Refine.f
  refine .bind (ev_iTwo _ _ _ _ _ _ _ _) ?_
  rw [iTwo_none.2 ⟨va, vb⟩]
  refine .pos rfl ?_
  unfold refC refE at e
  refine .ite (fun q => ?_) (fun q => ?_)
  · rw [if_pos q] at e
    rw [less_val (by omega) la hb]
    exact .bind .some e
  rw [if_neg q] at e
  refine .ite (fun q => ?_) (fun q => ?_)
  · rw [if_pos q] at e
    rw [less_val (by omega) la hb]
    exact .bind .some e
  rw [if_neg q] at e
  refine .ite (fun q => ?_) (fun q => ?_)
  · rw [if_pos q] at e
    rw [less_val (by omega) lb ha]
    exact .bind .some e
  rw [if_neg q] at e
  refine .ite (fun q => ?_) (fun q => ?_)
  · rw [if_pos q] at e
    rw [less_val (by omega) lb ha]
    exact .bind .some e
  rw [if_neg q] at e
  refine .ite (fun q => ?_) (fun q => ?_)
  · rw [if_pos q] at e
    exact .bind (x := ((ivMeet a b).1.down, (ivMeet a b).1.up, (ivMeet a b).1.low, (ivMeet a b).1.high, (ivMeet a b).2)) ⟨3, fun k hk => by obtain ⟨j, rfl⟩ : ∃ j, k = j + 3 := ⟨k - 3, by omega⟩; exact meet_val _ _ _ _ _ _ _ _ j⟩ e
  rw [if_neg q] at e
  refine .pos (by rcases hk with k | k | k | k | k | k <;> first | exact k | contradiction) ?_
  rw [one_val b]
  refine .bind .some (.ite (fun s => ?_) (fun s => ?_))
  · rw [if_pos s] at e
    exact .bind (without_val la ha) e
  · rw [if_neg s] at e
    rw [one_val a]
    refine .bind .some (.ite (fun s => ?_) (fun s => ?_))
    · rw [if_pos s] at e
      exact .bind (without_val lb hb) e
    · rw [if_neg s] at e
      exact e
theorem okI_meet {a b : Iv} (h : (ivMeet a b).2 = true) : okI (ivMeet a b).1 := by
  unfold ivMeet at h ⊢
  split at h
  · cases h
  · rename_i q
    rw [if_neg q]
    intro h1 h2
    unfold nothing at q
    exact Int.not_lt.1 fun h3 => q ⟨h1, h2, h3⟩
theorem okI_less {a b : Iv} {c : Int} (va : okI a) (vb : okI b) (h : (ivLess a b c).2.2 = true) : okI (ivLess a b c).1 ∧ okI (ivLess a b c).2.1 := by
  unfold ivLess at h ⊢
  by_cases h1 : b.up = false
  · rw [if_pos h1] at h ⊢
    by_cases h2 : (ivMeet a ⟨true, false, 0, b.high - c⟩).2 = true ∧ a.down = false
    · rw [if_pos h2] at h ⊢
      exact ⟨okI_meet h2.1, okI_meet h⟩
    · rw [if_neg h2] at h ⊢
      exact ⟨okI_meet h, vb⟩
  · rw [if_neg h1] at h ⊢
    by_cases h2 : a.down = false
    · rw [if_pos h2] at h ⊢
      exact ⟨va, okI_meet h⟩
    · rw [if_neg h2]
      exact ⟨va, vb⟩
theorem okI_without {a : Iv} {n : Int} (va : okI a) (h : (ivWithout a n).2 = true) : okI (ivWithout a n).1 := by
  unfold ivWithout at h ⊢
  split at h
  · cases h
  · rename_i q
    rw [if_neg q]
    split
    · rename_i q2
      intro h1 h2
      have := va h1 h2
      simp only at h1 h2 ⊢
      exact Classical.byContradiction fun z => q ⟨h1, h2, q2.2, by omega⟩
    · split
      · rename_i q2 q3
        intro h1 h2
        have := va h1 h2
        simp only at h1 h2 ⊢
        exact Classical.byContradiction fun z => q ⟨h1, h2, by omega, q3.2⟩
      · exact va
theorem okI_ref {a b : Iv} {h : List UInt8} (va : okI a) (vb : okI b) (e : (refC h a b).2.2 = true) : okI (refC h a b).1 ∧ okI (refC h a b).2.1 := by
  unfold refC at e ⊢
  split at e
  · rename_i q; rw [if_pos q]; exact okI_less va vb e
  rename_i q1; rw [if_neg q1]
  split at e
  · rename_i q; rw [if_pos q]; exact okI_less va vb e
  rename_i q2; rw [if_neg q2]
  split at e
  · rename_i q; rw [if_pos q]; exact (okI_less vb va e).symm
  rename_i q3; rw [if_neg q3]
  split at e
  · rename_i q; rw [if_pos q]; exact (okI_less vb va e).symm
  rename_i q4; rw [if_neg q4]
  split at e
  · rename_i q; rw [if_pos q]; exact ⟨okI_meet e, okI_meet e⟩
  rename_i q5; rw [if_neg q5]
  split at e
  · rename_i q; rw [if_pos q]; exact ⟨okI_without va e, vb⟩
  rename_i q6; rw [if_neg q6]
  split at e
  · rename_i q; rw [if_pos q]; exact ⟨va, okI_without vb e⟩
  rename_i q7; rw [if_neg q7]
  exact ⟨va, vb⟩
/-! ### Small ones -/
section
variable {a1 a2 b1 b2 c : Int}
theorem less_small (hab : a1 ≤ a2 ∧ b1 ≤ b2) :
    (a1 + c ≤ b2 ∧ ivLess ⟨false, false, a1, a2⟩ ⟨false, false, b1, b2⟩ c = (⟨false, false, a1, if b2 - c < a2 then b2 - c else a2⟩, ⟨false, false, if a1 + c > b1 then a1 + c else b1, b2⟩, true)) ∨
    (b2 < a1 + c ∧ (ivLess ⟨false, false, a1, a2⟩ ⟨false, false, b1, b2⟩ c).2.2 = false) := by
  have m1 : met ⟨false, false, a1, a2⟩ ⟨true, false, 0, b2 - c⟩ = ⟨false, false, a1, if b2 - c < a2 then b2 - c else a2⟩ := by
    unfold met
    simp
  have m2 : met ⟨false, false, b1, b2⟩ ⟨false, true, a1 + c, 0⟩ = ⟨false, false, if a1 + c > b1 then a1 + c else b1, b2⟩ := by
    unfold met
    simp
  by_cases h : a1 + c ≤ b2
  · left
    refine ⟨h, ?_⟩
    have n1 : ¬ nothing (⟨false, false, a1, if b2 - c < a2 then b2 - c else a2⟩ : Iv) := by rintro ⟨_, _, z⟩; simp only at z; split at z <;> omega
    have n2 : ¬ nothing (⟨false, false, if a1 + c > b1 then a1 + c else b1, b2⟩ : Iv) := by rintro ⟨_, _, z⟩; simp only at z; split at z <;> omega
    unfold ivLess ivMeet
    simp only [m1, m2, if_neg n1, if_neg n2, and_self, if_true]
  · right
    refine ⟨by omega, ?_⟩
    have n1 : nothing (⟨false, false, a1, if b2 - c < a2 then b2 - c else a2⟩ : Iv) := ⟨rfl, rfl, by simp only; split <;> omega⟩
    unfold ivLess ivMeet
    simp only [m1, if_pos n1, Bool.false_eq_true, false_and, if_true, if_false]
theorem meet_small (hab : a1 ≤ a2 ∧ b1 ≤ b2) :
    ((a1 ≤ b2 ∧ b1 ≤ a2) ∧ ivMeet ⟨false, false, a1, a2⟩ ⟨false, false, b1, b2⟩ = (⟨false, false, if b1 > a1 then b1 else a1, if b2 < a2 then b2 else a2⟩, true)) ∨
    (¬ (a1 ≤ b2 ∧ b1 ≤ a2) ∧ (ivMeet ⟨false, false, a1, a2⟩ ⟨false, false, b1, b2⟩).2 = false) := by
  have m1 : met ⟨false, false, a1, a2⟩ ⟨false, false, b1, b2⟩ = ⟨false, false, if b1 > a1 then b1 else a1, if b2 < a2 then b2 else a2⟩ := by
    unfold met
    simp
  unfold ivMeet
  rw [m1]
  by_cases h : a1 ≤ b2 ∧ b1 ≤ a2
  · left
    have n1 : ¬ nothing (⟨false, false, if b1 > a1 then b1 else a1, if b2 < a2 then b2 else a2⟩ : Iv) := by rintro ⟨_, _, z⟩; simp only at z; split at z <;> split at z <;> omega
    rw [if_neg n1]
    exact ⟨h, rfl⟩
  · right
    have n1 : nothing (⟨false, false, if b1 > a1 then b1 else a1, if b2 < a2 then b2 else a2⟩ : Iv) := ⟨rfl, rfl, by simp only; split <;> split <;> omega⟩
    rw [if_pos n1]
    exact ⟨h, rfl⟩
/-- The result and what is told of the pairs. -/
def Told (r : Iv × Iv × Bool) (P : Int → Int → Prop) : Prop :=
  (∃ xl xh yl yh, r = (⟨false, false, xl, xh⟩, ⟨false, false, yl, yh⟩, true) ∧ Core P true xl xh yl yh) ∨ (r.2.2 = false ∧ ∀ p q, ¬ P p q)
theorem pr_lt {p q : Int} : Pr [60] a1 a2 b1 b2 p q ↔ a1 ≤ p ∧ p ≤ a2 ∧ b1 ≤ q ∧ q ≤ b2 ∧ p + 1 ≤ q := by unfold Pr Stands; simp; omega
theorem pr_le {p q : Int} : Pr [60, 61] a1 a2 b1 b2 p q ↔ a1 ≤ p ∧ p ≤ a2 ∧ b1 ≤ q ∧ q ≤ b2 ∧ p + 0 ≤ q := by unfold Pr Stands; simp
theorem pr_gt {p q : Int} : Pr [62] a1 a2 b1 b2 p q ↔ a1 ≤ p ∧ p ≤ a2 ∧ b1 ≤ q ∧ q ≤ b2 ∧ q + 1 ≤ p := by unfold Pr Stands; simp; omega
theorem pr_ge {p q : Int} : Pr [62, 61] a1 a2 b1 b2 p q ↔ a1 ≤ p ∧ p ≤ a2 ∧ b1 ≤ q ∧ q ≤ b2 ∧ q + 0 ≤ p := by unfold Pr Stands; simp
theorem pr_eq {p q : Int} : Pr [61] a1 a2 b1 b2 p q ↔ a1 ≤ p ∧ p ≤ a2 ∧ b1 ≤ q ∧ q ≤ b2 ∧ p = q := by unfold Pr Stands; simp
theorem pr_ne {p q : Int} : Pr [33, 61] a1 a2 b1 b2 p q ↔ a1 ≤ p ∧ p ≤ a2 ∧ b1 ≤ q ∧ q ≤ b2 ∧ p ≠ q := by unfold Pr Stands; simp
theorem told_less {P : Int → Int → Prop} (hab : a1 ≤ a2 ∧ b1 ≤ b2) (hP : ∀ p q, P p q ↔ a1 ≤ p ∧ p ≤ a2 ∧ b1 ≤ q ∧ q ≤ b2 ∧ p + c ≤ q) (hc : 0 ≤ c) : Told (ivLess ⟨false, false, a1, a2⟩ ⟨false, false, b1, b2⟩ c) P := by
  rcases less_small (c := c) hab with ⟨h, e⟩ | ⟨h, e⟩
  · left
    rw [e]
    refine ⟨_, _, _, _, rfl, .inl ⟨rfl, ⟨b2, (hP _ _).2 ?_⟩, ⟨b2, (hP _ _).2 ?_⟩, ⟨a1, (hP _ _).2 ?_⟩, ⟨a1, (hP _ _).2 ?_⟩, fun p q o => ?_⟩⟩
    · omega
    · split <;> omega
    · split <;> omega
    · omega
    · have := (hP _ _).1 o
      split <;> split <;> omega
  · exact .inr ⟨e, fun p q o => by have := (hP _ _).1 o; omega⟩
theorem told_swp {r : Iv × Iv × Bool} {P Q : Int → Int → Prop} (t : Told r Q) (h : ∀ p q, P p q ↔ Q q p) : Told (swp r) P := by
  rcases t with ⟨xl, xh, yl, yh, e, c⟩ | ⟨e, n⟩
  · left
    rcases c with ⟨_, ⟨q1, c1⟩, ⟨q2, c2⟩, ⟨p1, c3⟩, ⟨p2, c4⟩, c5⟩ | ⟨z, _⟩
    · refine ⟨yl, yh, xl, xh, by rw [e]; rfl, .inl ⟨rfl, ⟨p1, (h _ _).2 c3⟩, ⟨p2, (h _ _).2 c4⟩, ⟨q1, (h _ _).2 c1⟩, ⟨q2, (h _ _).2 c2⟩, fun p q o => ?_⟩⟩
      have := c5 _ _ ((h _ _).1 o)
      omega
    · cases z
  · exact .inr ⟨e, fun p q o => n _ _ ((h _ _).1 o)⟩
theorem told_ref {h : List UInt8} (hk : known h) (hab : a1 ≤ a2 ∧ b1 ≤ b2) : Told (refC h ⟨false, false, a1, a2⟩ ⟨false, false, b1, b2⟩) (Pr h a1 a2 b1 b2) := by
  rcases hk with rfl | rfl | rfl | rfl | rfl | rfl
  · exact told_less (c := 1) hab (fun p q => pr_lt) (by decide)
  · exact told_less (c := 0) hab (fun p q => pr_le) (by decide)
  · exact told_swp (told_less (c := 1) ⟨hab.2, hab.1⟩ (P := fun q p => b1 ≤ q ∧ q ≤ b2 ∧ a1 ≤ p ∧ p ≤ a2 ∧ q + 1 ≤ p) (fun p q => Iff.rfl) (by decide)) (fun p q => by rw [pr_gt]; omega)
  · exact told_swp (told_less (c := 0) ⟨hab.2, hab.1⟩ (P := fun q p => b1 ≤ q ∧ q ≤ b2 ∧ a1 ≤ p ∧ p ≤ a2 ∧ q + 0 ≤ p) (fun p q => Iff.rfl) (by decide)) (fun p q => by rw [pr_ge]; omega)
  · unfold refC
    rw [if_neg (by decide), if_neg (by decide), if_neg (by decide), if_neg (by decide), if_pos rfl]
    rcases meet_small hab with ⟨h, e⟩ | ⟨h, e⟩
    · left
      rw [e]
      refine ⟨_, _, _, _, rfl, .inl ⟨rfl, ⟨_, pr_eq.2 ⟨?_, ?_, ?_, ?_, rfl⟩⟩, ⟨_, pr_eq.2 ⟨?_, ?_, ?_, ?_, rfl⟩⟩, ⟨_, pr_eq.2 ⟨?_, ?_, ?_, ?_, rfl⟩⟩, ⟨_, pr_eq.2 ⟨?_, ?_, ?_, ?_, rfl⟩⟩, fun p q o => ?_⟩⟩
      all_goals first | (have := pr_eq.1 o; split <;> split <;> omega) | (split <;> omega)
    · exact .inr ⟨e, fun p q o => by have := pr_eq.1 o; omega⟩
  · unfold refC
    rw [if_neg (by decide), if_neg (by decide), if_neg (by decide), if_neg (by decide), if_neg (by decide)]
    have hs : ∀ l h : Int, single ⟨false, false, l, h⟩ = decide (l = h) := fun l h => by unfold single; simp [Bool.beq_eq_decide_eq]
    rw [hs, hs]
    by_cases h1 : b1 = b2
    · subst h1
      rw [if_pos (by simp)]
      unfold ivWithout
      by_cases h2 : a1 = b1 ∧ a2 = b1
      · right
        refine ⟨?_, fun p q o => by have := pr_ne.1 o; omega⟩
        simp [h2.1, h2.2]
      · left
        by_cases h3 : a1 = b1
        · refine ⟨a1 + 1, a2, b1, b1, by rw [if_neg (fun q => h2 ⟨q.2.2.1, q.2.2.2⟩), if_pos ⟨rfl, h3⟩], .inl ⟨rfl, ⟨b1, pr_ne.2 (by omega)⟩, ⟨b1, pr_ne.2 (by omega)⟩, ⟨a2, pr_ne.2 (by omega)⟩, ⟨a2, pr_ne.2 (by omega)⟩, fun p q o => by have := pr_ne.1 o; omega⟩⟩
        · by_cases h4 : a2 = b1
          · refine ⟨a1, a2 - 1, b1, b1, by simp [h3, h4], .inl ⟨rfl, ⟨b1, pr_ne.2 (by omega)⟩, ⟨b1, pr_ne.2 (by omega)⟩, ⟨a1, pr_ne.2 (by omega)⟩, ⟨a1, pr_ne.2 (by omega)⟩, fun p q o => by have := pr_ne.1 o; omega⟩⟩
          · refine ⟨a1, a2, b1, b1, by simp [h3, h4], .inl ⟨rfl, ⟨b1, pr_ne.2 (by omega)⟩, ⟨b1, pr_ne.2 (by omega)⟩, ⟨a1, pr_ne.2 (by omega)⟩, ⟨a1, pr_ne.2 (by omega)⟩, fun p q o => by have := pr_ne.1 o; omega⟩⟩
    · rw [if_neg (by simpa using h1)]
      by_cases h2 : a1 = a2
      · subst h2
        rw [if_pos (by simp)]
        unfold ivWithout
        left
        by_cases h3 : b1 = a1
        · refine ⟨a1, a1, b1 + 1, b2, by rw [if_neg (fun q => h1 (q.2.2.1.trans q.2.2.2.symm)), if_pos ⟨rfl, h3⟩], .inl ⟨rfl, ⟨b2, pr_ne.2 (by omega)⟩, ⟨b2, pr_ne.2 (by omega)⟩, ⟨a1, pr_ne.2 (by omega)⟩, ⟨a1, pr_ne.2 (by omega)⟩, fun p q o => by have := pr_ne.1 o; omega⟩⟩
        · by_cases h4 : b2 = a1
          · refine ⟨a1, a1, b1, b2 - 1, by simp [h3, h4], .inl ⟨rfl, ⟨b1, pr_ne.2 (by omega)⟩, ⟨b1, pr_ne.2 (by omega)⟩, ⟨a1, pr_ne.2 (by omega)⟩, ⟨a1, pr_ne.2 (by omega)⟩, fun p q o => by have := pr_ne.1 o; omega⟩⟩
          · refine ⟨a1, a1, b1, b2, by simp [h3, h4], .inl ⟨rfl, ⟨b1, pr_ne.2 (by omega)⟩, ⟨b1, pr_ne.2 (by omega)⟩, ⟨a1, pr_ne.2 (by omega)⟩, ⟨a1, pr_ne.2 (by omega)⟩, fun p q o => by have := pr_ne.1 o; omega⟩⟩
      · rw [if_neg (by simpa using h2)]
        left
        have w : ∀ p : Int, ∃ q, b1 ≤ q ∧ q ≤ b2 ∧ p ≠ q := fun p => by
          by_cases z : p = b1
          · exact ⟨b2, by omega⟩
          · exact ⟨b1, by omega⟩
        have w' : ∀ q : Int, ∃ p, a1 ≤ p ∧ p ≤ a2 ∧ p ≠ q := fun q => by
          by_cases z : q = a1
          · exact ⟨a2, by omega⟩
          · exact ⟨a1, by omega⟩
        obtain ⟨q1, e1⟩ := w a1
        obtain ⟨q2, e2⟩ := w a2
        obtain ⟨p1, e3⟩ := w' b1
        obtain ⟨p2, e4⟩ := w' b2
        exact ⟨a1, a2, b1, b2, rfl, .inl ⟨rfl, ⟨q1, pr_ne.2 (by omega)⟩, ⟨q2, pr_ne.2 (by omega)⟩, ⟨p1, pr_ne.2 (by omega)⟩, ⟨p2, pr_ne.2 (by omega)⟩, fun p q o => by have := pr_ne.1 o; omega⟩⟩
end
/-! ### The law -/
theorem coded_one : L2_coded.f (some 1) 1 = some true := by
  unfold L2_coded.f
  rw [if_pos (by simp)]
  simp
theorem isSpan_e {c : Int} (h : c = 1 ∨ c = 2 ∨ c = 3) : L2_isSpan.f false false 0 0 (some c) false false 0 0 c = some true := by
  unfold L2_isSpan.f
  rw [if_pos (by omega)]
  rcases h with rfl | h
  · rw [coded_one]; rfl
  · rw [coded_err h]; rfl
theorem small_val (d u : Bool) (l h : Int) : R2_Small.f d u l h 12 = some (decide (d = false ∧ u = false ∧ (-12 ≤ l ∧ l ≤ 12) ∧ -12 ≤ h ∧ h ≤ 12)) := by
  unfold R2_Small.f
  rw [far_n (by omega), far_n (by omega)]
  simp only [Option.bind_some, decide_eq_true_eq]
  cases d <;> cases u <;> simp
  split
  · rename_i q
    simp; omega
  · rename_i q
    refine congrArg some ?_
    rw [Bool.eq_iff_iff]
    simp
    omega
theorem okI_of {d u : Bool} {l h : Int} (v : IV d u l h) : okI ⟨d, u, l, h⟩ := v.le
theorem refE_no {r : Iv × Iv × Bool} (h : r.2.2 = false) : refE r (false, false, 0, 0, false, false, 0, 0, false, none) := by
  unfold refE
  rw [h]
  exact Ev.step (fun k => by simp only [interval_Refine.j0]; rfl) (.neg Bool.false_ne_true .some)
theorem refE_yes {r : Iv × Iv × Bool} (h : r.2.2 = true) {d u d' u' : Bool} {l h1 l' h' : Int} (e1 : Ev (fun k => interval_clip.f k r.1.down r.1.up r.1.low r.1.high) (d, u, l, h1)) (e2 : Ev (fun k => interval_clip.f k r.2.1.down r.2.1.up r.2.1.low r.2.1.high) (d', u', l', h')) :
    refE r (d, u, l, h1, d', u', l', h', true, none) := by
  unfold refE
  rw [h]
  refine Ev.step (fun k => by simp only [interval_Refine.j0]; rfl) ?_
  refine .pos (by first | trivial | rfl) ?_
  refine .bind e1 ?_
  refine .bind e2 ?_
  exact .some
theorem iv_zero : IV false false 0 0 := ⟨fun h => (by cases h), fun h => (by cases h), fun _ _ => Int.le_refl _, by decide, by decide, by decide, by decide⟩
/-- Right, and not both small: the results are right. -/
theorem ref_right {x : ByteArray} {ok d u d' u' dx ux dy uy : Bool} {l h l' h' lx hx ly hy : Int} (vx : IV dx ux lx hx) (vy : IV dy uy ly hy) :
    Ev (fun k => L2_IntervalRefine.j4 k x ok true d u l h d' u' l' h' dx ux lx hx dy uy ly hy) true := by
  refine Ev.step (fun k => by simp only [L2_IntervalRefine.j4]; rfl) ?_
  refine .pos (by first | trivial | rfl) ?_
  refine .bind (ev_iError dx ux lx hx) ?_
  rw [iErr_none.2 vx]
  refine .pos rfl (.bind (ev_iError dy uy ly hy) ?_)
  rw [iErr_none.2 vy]
  exact .some
theorem law_known {d u d' u' : Bool} {l h l' h' : Int} {how : ByteArray} (va : IV d u l h) (vb : IV d' u' l' h') (hk : known how.toList) :
    Ev (fun k => L2_IntervalRefine.j3 k how 0 d u l h d' u' l' h') true := by
  have E := fun X => ev_Refine (a := ⟨d, u, l, h⟩) (b := ⟨d', u', l', h'⟩) (h := how) va vb hk (X := X)
  by_cases hs : (d = false ∧ u = false ∧ (-12 ≤ l ∧ l ≤ 12) ∧ -12 ≤ h ∧ h ≤ 12) ∧ (d' = false ∧ u' = false ∧ (-12 ≤ l' ∧ l' ≤ 12) ∧ -12 ≤ h' ∧ h' ≤ 12)
  · obtain ⟨⟨rfl, rfl, hl, hh⟩, rfl, rfl, hl', hh'⟩ := hs
    have hab : l ≤ h ∧ l' ≤ h' := ⟨va.le rfl rfl, vb.le rfl rfl⟩
    have fin : ∀ ok xl xh yl yh, Ev (fun k => interval_Refine.f k false false l h false false l' h' how) (false, false, xl, xh, false, false, yl, yh, ok, none) → Core (Pr how.toList l h l' h') ok xl xh yl yh → Ev (fun k => L2_IntervalRefine.j3 k how 0 false false l h false false l' h') true := by
      intro ok xl xh yl yh e c
      refine Ev.step (fun k => by simp only [L2_IntervalRefine.j3]; rfl) ?_
      refine .bind e ?_
      refine .neg (by decide) ?_
      refine .pos rfl ?_
      rw [small_val, small_val, decide_eq_true (by exact ⟨rfl, rfl, hl, hh⟩), decide_eq_true (by exact ⟨rfl, rfl, hl', hh'⟩)]
      refine .bind .some (.pos rfl (.bind .some ?_))
      refine Ev.step (fun k => by simp only [L2_IntervalRefine.j4]; rfl) (.neg (by decide) ?_)
      exact ref_loop ⟨hl.1, hh.2⟩ ⟨hl'.1, hh'.2⟩ hab c (h + 1 - l).toNat l (Int.le_refl _) (by omega) [] [] (by simp) (by simp) (fun p => ⟨fun z => (by cases z), fun ⟨q, z, o⟩ => by have := z.1; omega⟩) (fun q => ⟨fun z => (by cases z), fun ⟨p, z, o⟩ => by have := z.1; omega⟩)
    rcases told_ref hk hab with ⟨xl, xh, yl, yh, e, c⟩ | ⟨e, n⟩
    · rcases c with ⟨_, ⟨q1, c1⟩, ⟨q2, c2⟩, ⟨p1, c3⟩, ⟨p2, c4⟩, c5⟩ | ⟨z, _⟩
      · have k1 := c5 _ _ c1
        have k3 := c5 _ _ c3
        have k2 := c5 _ _ c2
        have k4 := c5 _ _ c4
        have s1 := And.intro c1.1 c1.2.1
        have s2 := And.intro c2.1 c2.2.1
        have s3 := And.intro c3.2.2.1 c3.2.2.2.1
        have s4 := And.intro c4.2.2.1 c4.2.2.2.1
        have w : ∀ {a b : Int}, -12 ≤ a → a ≤ b → b ≤ 12 → IV false false a b := fun h1 h2 h3 => ⟨fun h => (by cases h), fun h => (by cases h), fun _ _ => h2, by omega, by omega, by omega, by omega⟩
        refine fin true xl xh yl yh (E _ ?_) (.inl ⟨rfl, ⟨q1, c1⟩, ⟨q2, c2⟩, ⟨p1, c3⟩, ⟨p2, c4⟩, c5⟩)
        refine refE_yes (by rw [e]) (by rw [e]; exact clip_same (w (a := xl) (b := xh) (by omega) (by omega) (by omega))) (by rw [e]; exact clip_same (w (a := yl) (b := yh) (by omega) (by omega) (by omega)))
      · cases z
    · exact fin false 0 0 0 0 (E _ (refE_no e)) (.inr ⟨rfl, rfl, rfl, rfl, rfl, n⟩)
  · have fin : ∀ ok dx ux lx hx dy uy ly hy, Ev (fun k => interval_Refine.f k d u l h d' u' l' h' how) (dx, ux, lx, hx, dy, uy, ly, hy, ok, none) → IV dx ux lx hx → IV dy uy ly hy → Ev (fun k => L2_IntervalRefine.j3 k how 0 d u l h d' u' l' h') true := by
      intro ok dx ux lx hx dy uy ly hy e vx vy
      refine Ev.step (fun k => by simp only [L2_IntervalRefine.j3]; rfl) ?_
      refine .bind e ?_
      refine .neg (by decide) ?_
      refine .pos rfl ?_
      rw [small_val, small_val]
      refine .bind .some (.ite (fun q => ?_) (fun q => ref_right vx vy))
      refine .bind .some ?_
      rw [decide_eq_false (fun q2 => hs ⟨of_decide_eq_true q, q2⟩)]
      exact ref_right vx vy
    cases e : (refC how.toList ⟨d, u, l, h⟩ ⟨d', u', l', h'⟩).2.2 with
    | true =>
      obtain ⟨o1, o2⟩ := okI_ref (okI_of va) (okI_of vb) e
      obtain ⟨dx, ux, lx, hx, e1, vx⟩ := clip_valid o1
      obtain ⟨dy, uy, ly, hy, e2, vy⟩ := clip_valid o2
      exact fin _ _ _ _ _ _ _ _ _ (E _ (refE_yes e e1 e2)) vx vy
    | false => exact fin _ _ _ _ _ _ _ _ _ (E _ (refE_no e)) iv_zero iv_zero
theorem law_bad {d u d' u' : Bool} {l h l' h' c : Int} {how : ByteArray} (hc : c = 1 ∨ c = 2 ∨ c = 3) (e : Ev (fun k => interval_Refine.f k d u l h d' u' l' h' how) (false, false, 0, 0, false, false, 0, 0, false, some c)) :
    Ev (fun k => L2_IntervalRefine.j3 k how c d u l h d' u' l' h') true := by
  refine Ev.step (fun k => by simp only [L2_IntervalRefine.j3]; rfl) ?_
  refine .bind e ?_
  refine .pos (by omega) ?_
  rw [isSpan_e hc]
  refine .bind .some ?_
  refine .pos rfl ?_
  refine .neg Bool.false_ne_true ?_
  exact .of fun k => rfl
theorem pure_IntervalRefine (d u : Bool) (l h : Int) (d' u' : Bool) (l' h' : Int) (how : ByteArray) : Ev (fun k => L2_IntervalRefine.f k d u l h d' u' l' h' how) true := by
  unfold L2_IntervalRefine.f
  refine .bind ev_three (.pos rfl ?_)
  by_cases hs : (how.size : Int) > 100
  · rw [decide_eq_true hs]
    exact Ev.step (h := fun _ => some true) (fun k => by simp only [L2_IntervalRefine.j0, if_true]) .some
  rw [decide_eq_false hs]
  have two : ∀ e : Int, ∀ b : Bool, (b = true → Ev (fun k => L2_IntervalRefine.j3 k how 1 d u l h d' u' l' h') true) → (b = false → Ev (fun k => L2_IntervalRefine.j3 k how e d u l h d' u' l' h') true) → Ev (fun k => L2_IntervalRefine.j2 k how e b d u l h d' u' l' h') true := by
    intro e b h1 h2
    refine Ev.step (fun k => by unfold L2_IntervalRefine.j2; rfl) (.ite (fun q => h1 q) (fun q => h2 (Bool.eq_false_iff.2 q)))
  have one : ∀ b : Bool, (b = true → known how.toList) → (b = false → ¬ known how.toList) → Ev (fun k => L2_IntervalRefine.j1 k how (errN (iTwo d u l h d' u' l' h')) b d u l h d' u' l' h') true := by
    intro b hb1 hb2
    refine Ev.step (fun k => by simp only [L2_IntervalRefine.j1]; rfl) ?_
    rcases iTwo_cases d u l h d' u' l' h' with e | e | e
    · rw [e]
      obtain ⟨va, vb⟩ := iTwo_none.1 e
      refine .pos rfl (two _ _ (fun q => ?_) (fun q => law_known va vb (hb1 (by simpa using q))))
      have nk := hb2 (by simpa using q)
      refine law_bad (.inl rfl) ?_
      unfold interval_Refine.f
      refine .bind (ev_iTwo _ _ _ _ _ _ _ _) ?_
      rw [e]
      exact .pos rfl (.neg (fun z => nk (.inl z)) (.neg (fun z => nk (.inr (.inl z))) (.neg (fun z => nk (.inr (.inr (.inl z)))) (.neg (fun z => nk (.inr (.inr (.inr (.inl z))))) (.neg (fun z => nk (.inr (.inr (.inr (.inr (.inl z)))))) (.neg (fun z => nk (.inr (.inr (.inr (.inr (.inr z)))))) .some))))))
    all_goals
      rw [e]
      refine .neg (by decide) (two _ _ (fun q => by cases q) (fun _ => law_bad (by decide) ?_))
      unfold interval_Refine.f
      refine .bind (ev_iTwo _ _ _ _ _ _ _ _) ?_
      rw [e]
      exact .neg (by simp) .some
  have yes : known how.toList → Ev (fun k => L2_IntervalRefine.j1 k how (errN (iTwo d u l h d' u' l' h')) true d u l h d' u' l' h') true := fun z => one true (fun _ => z) (fun q => by cases q)
  refine Ev.step (fun k => by simp only [L2_IntervalRefine.j0, Bool.false_eq_true, if_false]; rfl) (.bind (ev_TwoIntervals _ _ _ _ _ _ _ _) ?_)
  refine .ite (fun z => yes (.inl z)) (fun z1 => .ite (fun z => yes (.inr (.inl z))) (fun z2 => .ite (fun z => yes (.inr (.inr (.inr (.inr (.inl z)))))) (fun z3 => .ite (fun z => yes (.inr (.inr (.inr (.inr (.inr z)))))) (fun z4 => .ite (fun z => yes (.inr (.inr (.inl z)))) (fun z5 => one _ (fun q => ?_) (fun q k => ?_))))))
  · exact .inr (.inr (.inr (.inl (by simpa using q))))
  · rcases k with k | k | k | k | k | k
    · exact z1 k
    · exact z2 k
    · exact z5 k
    · rw [k] at q; simp at q
    · exact z3 k
    · exact z4 k
end Go.Proofs.Rcp
