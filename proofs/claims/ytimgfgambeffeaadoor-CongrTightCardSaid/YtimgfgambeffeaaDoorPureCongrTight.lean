/- Plain law: the law 'CongrTight' as it is printed is true, whatever it is given. -/
import Derived.Test.YtimgfgambeffeaaDoorIvEv
import Derived.Test.YtimgfgambeffeaaDoorC19
import Derived.Test.YtimgfgambeffeaaDoorC20
set_option linter.unusedVariables false
namespace Go.Proofs.Rcp
open Go.RowKit Go.Proofs.Rcg Go.Proofs.YtimgfgambeffeaaDoor.C Go.Proofs.YtimgfgambeffeaaDoorW.PrintWords Go.Proofs.YtimgfgambeffeaaDoorW.PrintMore

/-- The least number of the congruence from 'lo' on; the greatest up to 'hi'. -/
def upTo (r m lo : Int) : Int := lo + (r - lo) % m
def downTo (r m hi : Int) : Int := hi - (hi - r) % m
theorem upTo_bd (r lo : Int) {m : Int} (h : 1 ≤ m) : lo ≤ upTo r m lo ∧ upTo r m lo < lo + m := by
  unfold upTo
  have h1 := Int.emod_nonneg (r - lo) (show m ≠ 0 by omega)
  have h2 := Int.emod_lt_of_pos (r - lo) (show 0 < m by omega)
  omega
theorem downTo_bd (r hi : Int) {m : Int} (h : 1 ≤ m) : downTo r m hi ≤ hi ∧ hi - m < downTo r m hi := by
  unfold downTo
  have h1 := Int.emod_nonneg (hi - r) (show m ≠ 0 by omega)
  have h2 := Int.emod_lt_of_pos (hi - r) (show 0 < m by omega)
  omega
theorem in_iff {r m n : Int} (h : CV r m) (h0 : m ≠ 0) : inC r m n = true ↔ (r - n) % m = 0 := by
  unfold inC
  rw [if_neg h0, beq_iff_eq]
  rcases cv_mod h with q | q
  · exact absurd q h0
  · constructor
    · intro e
      exact Int.emod_eq_emod_iff_emod_sub_eq_zero.1 (by rw [q, e])
    · intro e
      have := Int.emod_eq_emod_iff_emod_sub_eq_zero.2 e
      rw [← this, q]
theorem in_up {r m lo : Int} (h : CV r m) (h0 : m ≠ 0) : inC r m (upTo r m lo) = true := by
  rw [in_iff h h0, upTo, show r - (lo + (r - lo) % m) = r - lo - (r - lo) % m by omega]
  exact Int.emod_eq_zero_of_dvd (Int.dvd_self_sub_emod)
theorem in_neg {r m n : Int} (h : CV r m) (h0 : m ≠ 0) : inC r m n = true ↔ (n - r) % m = 0 := by
  rw [in_iff h h0, show r - n = -(n - r) by omega]
  constructor
  · intro e; exact Int.emod_eq_zero_of_dvd (Int.dvd_neg.1 (Int.dvd_of_emod_eq_zero e))
  · intro e; exact Int.emod_eq_zero_of_dvd (Int.dvd_neg.2 (Int.dvd_of_emod_eq_zero e))
theorem up_self {r m lo : Int} (h : CV r m) (h0 : m ≠ 0) (e : inC r m lo = true) : upTo r m lo = lo := by
  have := (in_iff h h0).1 e
  unfold upTo; omega
theorem down_self {r m hi : Int} (h : CV r m) (h0 : m ≠ 0) (e : inC r m hi = true) : downTo r m hi = hi := by
  have := (in_neg h h0).1 e
  unfold downTo; omega
theorem mod_pred {a m : Int} (h : 1 ≤ m) (h0 : a % m ≠ 0) : (a - 1) % m = a % m - 1 := by
  have h1 := Int.emod_nonneg a (show m ≠ 0 by omega)
  have h2 := Int.emod_lt_of_pos a (show 0 < m by omega)
  have e : a - 1 = (a % m - 1) + m * (a / m) := by have := Int.emod_add_mul_ediv a m; omega
  rw [e, Int.add_mul_emod_self_left, Int.emod_eq_of_lt (by omega) (by omega)]
theorem up_step {r m lo : Int} (h : CV r m) (h0 : m ≠ 0) (e : inC r m lo = false) : upTo r m (lo + 1) = upTo r m lo ∧ (r - (lo + 1)) % m = (r - lo) % m - 1 ∧ 0 < (r - lo) % m := by
  have a := h.bd
  have h1 := Int.emod_nonneg (r - lo) h0
  have z : (r - lo) % m ≠ 0 := fun q => by rw [(in_iff h h0).2 q] at e; cases e
  have := mod_pred (a := r - lo) (m := m) (by omega) z
  rw [show r - lo - 1 = r - (lo + 1) by omega] at this
  unfold upTo
  omega
theorem down_step {r m hi : Int} (h : CV r m) (h0 : m ≠ 0) (e : inC r m hi = false) : downTo r m (hi - 1) = downTo r m hi ∧ (hi - 1 - r) % m = (hi - r) % m - 1 ∧ 0 < (hi - r) % m := by
  have a := h.bd
  have h1 := Int.emod_nonneg (hi - r) h0
  have z : (hi - r) % m ≠ 0 := fun q => by rw [(in_neg h h0).2 q] at e; cases e
  have := mod_pred (a := hi - r) (m := m) (by omega) z
  rw [show hi - r - 1 = hi - 1 - r by omega] at this
  unfold downTo
  omega

/-! ### congr.Tight -/
/-- What it tells of an interval whose sides are moved. -/
def cut (d u : Bool) (lo hi : Int) : Bool × Bool × Int × Int × Bool × Option Int :=
  if d = false ∧ u = false ∧ lo > hi then (false, false, 0, 0, false, none) else (d, u, if d = true then lo else mn lo 1099511627776, if u = true then hi else mx hi (-1099511627776), true, none)
theorem tight_j2 (d u : Bool) (lo hi : Int) : Ev (fun k => congr_Tight.j2 k d u lo hi) (cut d u lo hi) := by
  have e : wrap64 (-1099511627776) = -1099511627776 := by unfold wrap64; omega
  refine Ev.mono (k := 2) (fun k x h => ((congr_Tight.mono_l k).2.1 d u lo hi x h)) ?_
  simp only [congr_Tight.j2, congr_Tight.j3, cut]
  cases d <;> cases u <;> simp
  split <;> simp [*]
theorem tight_j1 {r m : Int} (h : CV r m) (h0 : m ≠ 0) (d u : Bool) (lo hi : Int) (b : -4611686018427387904 ≤ hi ∧ hi ≤ 4611686018427387904) : Ev (fun k => congr_Tight.j1 k r m d u lo hi) (cut d u lo (if u = true then hi else downTo r m hi)) := by
  have a := h.bd
  refine Ev.step (h := fun k => if u = true then congr_Tight.j2 k d u lo hi else if m = 0 then none else congr_Tight.j2 k d u lo (downTo r m hi)) (fun k => ?_) ?_
  · simp only [congr_Tight.j1]
    have e1 : wrap64 (hi - r) = hi - r := w64 (by omega) (by omega)
    have e2 : Int.tmod (wrap64 (Int.tmod (wrap64 (hi - r)) m + m)) m = (hi - r) % m := by rw [e1, up_mod _ _ (by omega) (by omega)]
    have d1 := downTo_bd r hi (m := m) (by omega)
    rw [e2, w64 (by unfold downTo at d1; omega) (by unfold downTo at d1; omega)]
    rfl
  · refine .ite (fun hu => ?_) (fun hu => .neg h0 ?_)
    · rw [if_pos hu]; exact tight_j2 d u lo hi
    · rw [if_neg hu]; exact tight_j2 d u lo _
theorem tight_l0 {r m : Int} (h : CV r m) (h0 : m ≠ 0) (d u : Bool) (lo hi : Int) (b : -4611686018427387904 ≤ hi ∧ hi ≤ 4611686018427387904) (c : -4611686018427387904 ≤ lo ∧ lo ≤ 4611686018427387904) : Ev (fun k => congr_Tight.l0 k r m d u lo hi) (cut d u (upTo r m lo) (if u = true then hi else downTo r m hi)) := by
  have a := h.bd
  have d1 := upTo_bd r lo (m := m) (by omega)
  have fin : Ev (fun k => congr_Tight.l0 k r m d u (upTo r m lo) hi) (cut d u (upTo r m lo) (if u = true then hi else downTo r m hi)) := by
    refine Ev.step (h := fun k => (congr_Has.f k r m (upTo r m lo)).bind fun t => if t = true then congr_Tight.j1 k r m d u (upTo r m lo) hi else if m = 0 then none else congr_Tight.l0 k r m d u (wrap64 (upTo r m lo + (Int.tmod (wrap64 ((Int.tmod (wrap64 (r - upTo r m lo)) m) + m)) m))) hi) (fun k => by simp only [congr_Tight.l0]) ?_
    exact .bind (ev_Has _ h) (.pos (in_up h h0) (tight_j1 h h0 d u _ hi b))
  refine Ev.step (h := fun k => (congr_Has.f k r m lo).bind fun t => if t = true then congr_Tight.j1 k r m d u lo hi else if m = 0 then none else congr_Tight.l0 k r m d u (upTo r m lo) hi) (fun k => ?_) ?_
  · simp only [congr_Tight.l0]
    have e1 : wrap64 (r - lo) = r - lo := w64 (by omega) (by omega)
    have e2 : Int.tmod (wrap64 (Int.tmod (wrap64 (r - lo)) m + m)) m = (r - lo) % m := by rw [e1, up_mod _ _ (by omega) (by omega)]
    rw [e2, w64 (n := lo + (r - lo) % m) (by unfold upTo at d1; omega) (by unfold upTo at d1; omega)]
    rfl
  · refine .bind (ev_Has _ h) (.ite (fun e => ?_) (fun e => .neg h0 fin))
    rw [up_self h h0 e]
    exact tight_j1 h h0 d u _ hi b
theorem ev_Tight {r m : Int} {d u : Bool} {lo hi : Int} (h : CV r m) (h' : IV d u lo hi) :
    Ev (fun k => congr_Tight.f k r m d u lo hi) (if m = 0 then (if inI d u lo hi r = true then (false, false, r, r, true, none) else (false, false, 0, 0, false, none)) else cut d u (if d = true then lo else upTo r m lo) (if u = true then hi else downTo r m hi)) := by
  have a := h.bd
  have := h'.l1; have := h'.l2; have := h'.h1; have := h'.h2
  unfold congr_Tight.f
  refine .bind (ev_Valid r m) ?_
  rw [cValid_none.2 h]
  refine .pos rfl (.bind (ev_iValid d u lo hi) ?_)
  rw [iErr_none.2 h']
  refine .pos rfl (.ite (fun h0 => ?_) (fun h0 => ?_))
  · rw [if_pos h0]
    refine .bind (ev_iHas r h') (.ite (fun e => ?_) (fun e => ?_))
    · rw [if_pos e]; exact .bind (ev_iOne a.1 a.2.1) .some
    · rw [if_neg e]; exact .some
  · rw [if_neg h0]
    refine .ite (fun hd => ?_) (fun hd => ?_)
    · rw [if_pos hd]; exact tight_j1 h h0 d u lo hi (by omega)
    · rw [if_neg hd]; exact tight_l0 h h0 d u lo hi (by omega) (by omega)
theorem tight_err {r m : Int} {d u : Bool} {lo hi c : Int} (h : cValid r m = some c ∨ (cValid r m = none ∧ iErr d u lo hi = some c)) : Ev (fun k => congr_Tight.f k r m d u lo hi) (false, false, 0, 0, false, some c) := by
  unfold congr_Tight.f
  refine .bind (ev_Valid r m) ?_
  rcases h with h | ⟨h, h'⟩
  · rw [h]; exact .neg (by simp) .some
  · rw [h]
    refine .pos rfl (.bind (ev_iValid d u lo hi) ?_)
    rw [h']
    exact .neg (by simp) .some

/-! ### the law -/
/-- What 'want' must be. -/
theorem law_end {x8 : Bool} {x9 : Option Int} {d u : Bool} {lo hi : Int} {p q : Bool} {s t : Int} (hx : (p, q, s, t, x8, x9) = cut d u lo hi) (h1 : d = true ∨ -1099511627776 ≤ lo ∧ lo ≤ 1099511627776) (h2 : u = true ∨ -1099511627776 ≤ hi ∧ hi ≤ 1099511627776) :
    (if d = true then (if x8 = true then ((L2_isSpan.f p q s t x9 d u lo hi 0).bind fun t => (some t)) else (none)) else (if u = true then (if x8 = true then ((L2_isSpan.f p q s t x9 d u lo hi 0).bind fun t => (some t)) else (none)) else (if lo > hi then (if x9.isNone = true then (if x8 = true then (none) else (some (!p && (!q && (s == 0 && (t == 0)))))) else (none)) else (if x8 = true then ((L2_isSpan.f p q s t x9 d u lo hi 0).bind fun t => (some t)) else (none))))) = some true := by
  by_cases c : d = false ∧ u = false ∧ lo > hi
  · rw [cut, if_pos c] at hx
    simp only [Prod.mk.injEq] at hx
    obtain ⟨rfl, rfl, rfl, rfl, rfl, rfl⟩ := hx
    rw [if_neg (by simp [c.1]), if_neg (by simp [c.2.1]), if_pos c.2.2]
    rfl
  · rw [cut, if_neg c] at hx
    simp only [Prod.mk.injEq] at hx
    obtain ⟨rfl, rfl, rfl, rfl, rfl, rfl⟩ := hx
    have e1 : (if p = true then lo else mn lo 1099511627776) = lo := by
      cases p
      · have : mn lo 1099511627776 = lo := by unfold mn; rcases h1 with h1 | h1
                                              · cases h1
                                              · split <;> omega
        simp [this]
      · simp
    have e2 : (if q = true then hi else mx hi (-1099511627776)) = hi := by
      cases q
      · have : mx hi (-1099511627776) = hi := by unfold mx; rcases h2 with h2 | h2
                                                 · cases h2
                                                 · split <;> omega
        simp [this]
      · simp
    rw [e1, e2, isSpan_ok]
    cases p <;> cases q <;> simp
    exact Int.not_lt.1 fun h => c ⟨rfl, rfl, h⟩
section
variable {x8 : Bool} {x9 : Option Int} {r m : Int} {p q : Bool} {s t : Int}
theorem law_l1 (h : CV r m) (h0 : m ≠ 0) (d : Bool) (lo : Int) (h1 : d = true ∨ -1099511627776 ≤ lo ∧ lo ≤ 1099511627776) :
    ∀ (n : Nat) (hi : Int), (hi - r) % m = (n : Int) → -1099511627776 ≤ hi - (hi - r) % m → hi ≤ 1099511627776 → (p, q, s, t, x8, x9) = cut d false lo (downTo r m hi) → Ev (fun k => L2_CongrTight.l1 k x8 x9 r m p q s t d false lo hi) true := by
  have a := h.bd
  intro n
  induction n with
  | zero =>
    intro hi hn b1 b2 hx
    have e : inC r m hi = true := (in_neg h h0).2 hn
    rw [down_self h h0 e] at hx
    have := law_end hx h1 (.inr (by omega))
    refine Ev.step (h := fun _ => some true) (fun k => ?_) .some
    simp only [L2_CongrTight.l1, leaves_c hi h (by omega) (by omega), Option.bind_some, e, if_true]
    exact this
  | succ n ih =>
    intro hi hn b1 b2 hx
    have e : inC r m hi = false := Bool.eq_false_iff.2 fun q => by have := (in_neg h h0).1 q; omega
    obtain ⟨s1, s2, s3⟩ := down_step h h0 e
    have := ih (hi - 1) (by omega) (by omega) (by omega) (by rw [s1]; exact hx)
    refine Ev.step (h := fun k => L2_CongrTight.l1 k x8 x9 r m p q s t d false lo (hi - 1)) (fun k => ?_) this
    simp only [L2_CongrTight.l1, leaves_c hi h (by omega) (by omega), Option.bind_some, e, Bool.false_eq_true, if_false]
    rw [w64 (by omega) (by omega)]
theorem law_j3 (h : CV r m) (h0 : m ≠ 0) (d u : Bool) (a2 a3 : Int) (lo hi : Int) (h1 : d = true ∨ -1099511627776 ≤ lo ∧ lo ≤ 1099511627776) (h2 : u = true → hi = 0) (b1 : -1073741824 ≤ hi) (b2 : hi ≤ 1073741824)
    (hx : (p, q, s, t, x8, x9) = cut d u lo (if u = true then hi else downTo r m hi)) : Ev (fun k => L2_CongrTight.j3 k x8 x9 r m d u a2 a3 p q s t d u lo hi) true := by
  have a := h.bd
  cases u
  · have n0 := Int.emod_nonneg (hi - r) h0
    have n1 := Int.emod_lt_of_pos (hi - r) (show 0 < m by omega)
    refine Ev.step (h := fun k => L2_CongrTight.l1 k x8 x9 r m p q s t d false lo hi) (fun k => by simp only [L2_CongrTight.j3, Bool.false_eq_true, if_false]) ?_
    exact law_l1 h h0 d lo h1 ((hi - r) % m).toNat hi (by omega) (by omega) (by omega) hx
  · have := law_end hx h1 (.inl rfl)
    refine Ev.step (h := fun _ => some true) (fun k => ?_) .some
    simp only [L2_CongrTight.j3, if_true] at this ⊢
    exact this
theorem law_l0 (h : CV r m) (h0 : m ≠ 0) (u : Bool) (a2 a3 : Int) (hi : Int) (h2 : u = true → hi = 0) (b1 : -1073741824 ≤ hi) (b2 : hi ≤ 1073741824) :
    ∀ (n : Nat) (lo : Int), (r - lo) % m = (n : Int) → -1099511627776 ≤ lo → lo + (r - lo) % m ≤ 1099511627776 → (p, q, s, t, x8, x9) = cut false u (upTo r m lo) (if u = true then hi else downTo r m hi) → Ev (fun k => L2_CongrTight.l0 k x8 x9 r m false u a2 a3 p q s t false u lo hi) true := by
  have a := h.bd
  intro n
  induction n with
  | zero =>
    intro lo hn c1 c2 hx
    have e : inC r m lo = true := (in_iff h h0).2 hn
    rw [up_self h h0 e] at hx
    refine Ev.step (h := fun k => L2_CongrTight.j3 k x8 x9 r m false u a2 a3 p q s t false u lo hi) (fun k => ?_) (law_j3 h h0 false u a2 a3 lo hi (.inr (by omega)) h2 b1 b2 hx)
    simp only [L2_CongrTight.l0, leaves_c lo h (by omega) (by omega), Option.bind_some, e, if_true]
  | succ n ih =>
    intro lo hn c1 c2 hx
    have e : inC r m lo = false := Bool.eq_false_iff.2 fun q => by have := (in_iff h h0).1 q; omega
    obtain ⟨s1, s2, s3⟩ := up_step h h0 e
    have := ih (lo + 1) (by omega) (by omega) (by omega) (by rw [s1]; exact hx)
    refine Ev.step (h := fun k => L2_CongrTight.l0 k x8 x9 r m false u a2 a3 p q s t false u (lo + 1) hi) (fun k => ?_) this
    simp only [L2_CongrTight.l0, leaves_c lo h (by omega) (by omega), Option.bind_some, e, Bool.false_eq_true, if_false]
    rw [w64 (by omega) (by omega)]
end
theorem ev_sixth' : Ev (fun k => L2_sixth.f k) true := Ev.mono (k := 20) (fun k r h => L2_sixth.mono k r h) (by kernel_rfl)
theorem cut_none (d u : Bool) (lo hi : Int) : (cut d u lo hi).2.2.2.2.2 = none := by unfold cut; split <;> rfl
theorem pure_CongrTight (r m : Int) (d u : Bool) (lo hi : Int) : Ev (fun k => L2_CongrTight.f k r m d u lo hi) true := by
  have bad : ∀ c : Int, c = 2 ∨ c = 3 → Ev (fun k => congr_Tight.f k r m d u lo hi) (false, false, 0, 0, false, some c) → Ev (fun k => L2_CongrTight.j0 k c r m d u lo hi) true := by
    intro c hc ht
    refine Ev.step (h := fun k => (congr_Tight.f k r m d u lo hi).bind fun b => if c > 0 then ((L2_isSpan.f b.1 b.2.1 b.2.2.1 b.2.2.2.1 b.2.2.2.2.2 b.1 b.2.1 b.2.2.1 b.2.2.2.1 c).bind fun t => (if t = true then (some (!b.2.2.2.2.1)) else (none))) else none) (fun k => ?_) (.bind ht (.pos (by omega) (.of fun _ => ?_)))
    · simp only [L2_CongrTight.j0, L2_own.f, Option.bind_some, if_pos (show c > 0 by omega)]
    · simp only [isSpan_err hc, Option.bind_some]; rfl
  unfold L2_CongrTight.f
  refine .bind ev_sixth' (.pos rfl (.bind (ev_CongrError r m) ?_))
  rcases cValid_cases r m with e | e | e
  · rw [e]
    refine .pos rfl (.bind (ev_iError d u lo hi) ?_)
    rcases iErr_cases d u lo hi with e' | e' | e'
    · rw [e']
      have h := cValid_none.1 e
      have h' := iErr_none.1 e'
      have a := h.bd
      have := h'.l1; have := h'.l2; have := h'.h1; have := h'.h2
      have hT := ev_Tight h h'
      generalize hv : (if m = 0 then (if inI d u lo hi r = true then (false, false, r, r, true, none) else (false, false, 0, 0, false, none)) else cut d u (if d = true then lo else upTo r m lo) (if u = true then hi else downTo r m hi)) = v at hT
      have hn : v.2.2.2.2.2 = none := by
        rw [← hv]
        split
        · split <;> rfl
        · exact cut_none _ _ _ _
      obtain ⟨p, q, s, t, x8, x9⟩ := v
      obtain rfl : x9 = none := hn
      have j1t : Ev (fun k => L2_CongrTight.j1 k x8 none true r m d u lo hi p q s t) true := Ev.step (h := fun _ => some true) (fun k => by simp only [L2_CongrTight.j1, if_true]; rfl) .some
      have j1f : -1073741824 ≤ lo → lo ≤ 1073741824 → -1073741824 ≤ hi → hi ≤ 1073741824 → m ≤ 5000 → -1073741824 ≤ r → r ≤ 1073741824 → Ev (fun k => L2_CongrTight.j1 k x8 none false r m d u lo hi p q s t) true := by
        intro l1 l2 m1 m2 m3 r1 r2
        by_cases h0 : m = 0
        · refine Ev.step (h := fun _ => some true) (fun k => ?_) .some
          rw [if_pos h0] at hv
          simp only [L2_CongrTight.j1, Bool.false_eq_true, if_false, if_pos h0, inOf_i, Option.bind_some]
          by_cases hi' : inI d u lo hi r = true
          · rw [if_pos hi'] at hv ⊢
            simp only [Prod.mk.injEq] at hv
            obtain ⟨rfl, rfl, rfl, rfl, rfl, _⟩ := hv
            rw [if_pos rfl, isSpan_ok]
            rfl
          · rw [if_neg hi'] at hv ⊢
            simp only [Prod.mk.injEq] at hv
            obtain ⟨rfl, rfl, rfl, rfl, rfl, _⟩ := hv
            rfl
        · rw [if_neg h0] at hv
          refine Ev.step (h := fun k => if d = true then L2_CongrTight.j3 k x8 none r m d u lo hi p q s t d u lo hi else L2_CongrTight.l0 k x8 none r m d u lo hi p q s t d u lo hi) (fun k => by simp only [L2_CongrTight.j1, Bool.false_eq_true, if_false, if_neg h0]) (.ite (fun hd => ?_) (fun hd => ?_))
          · rw [if_pos hd] at hv
            exact law_j3 h h0 d u lo hi lo hi (.inl hd) h'.u0 m1 m2 hv.symm
          · rw [if_neg hd] at hv
            have hd := Bool.eq_false_iff.2 hd
            subst hd
            have n0 := Int.emod_nonneg (r - lo) h0
            have n1 := Int.emod_lt_of_pos (r - lo) (show 0 < m by omega)
            exact law_l0 h h0 u lo hi hi h'.u0 m1 m2 ((r - lo) % m).toNat lo (by omega) (by omega) (by omega) hv.symm
      have F := fun a : Int => far_n (n := 1073741824) (by omega) a
      refine Ev.step (h := fun k => (congr_Tight.f k r m d u lo hi).bind fun b => if decide (lo > 1073741824 ∨ lo < -1073741824) = true then L2_CongrTight.j1 k b.2.2.2.2.1 b.2.2.2.2.2 true r m d u lo hi b.1 b.2.1 b.2.2.1 b.2.2.2.1 else if decide (hi > 1073741824 ∨ hi < -1073741824) = true then L2_CongrTight.j1 k b.2.2.2.2.1 b.2.2.2.2.2 true r m d u lo hi b.1 b.2.1 b.2.2.1 b.2.2.2.1 else if m > 5000 then L2_CongrTight.j1 k b.2.2.2.2.1 b.2.2.2.2.2 true r m d u lo hi b.1 b.2.1 b.2.2.1 b.2.2.2.1 else L2_CongrTight.j1 k b.2.2.2.2.1 b.2.2.2.2.2 (decide (r > 1073741824 ∨ r < -1073741824)) r m d u lo hi b.1 b.2.1 b.2.2.1 b.2.2.2.1) (fun k => ?_) (.bind hT ?_)
      · simp only [L2_CongrTight.j0, L2_own.f, Option.bind_some, F]
        rfl
      · dsimp only
        refine .ite (fun _ => j1t) (fun c1 => .ite (fun _ => j1t) (fun c2 => .ite (fun _ => j1t) (fun c3 => ?_)))
        by_cases c4 : r > 1073741824 ∨ r < -1073741824
        · rw [decide_eq_true c4]; exact j1t
        · rw [decide_eq_false c4]
          have c1 := of_decide_eq_false (Bool.eq_false_iff.2 c1)
          have c2 := of_decide_eq_false (Bool.eq_false_iff.2 c2)
          exact j1f (by omega) (by omega) (by omega) (by omega) (by omega) (by omega) (by omega)
    · rw [e']; exact bad 2 (.inl rfl) (tight_err (.inr ⟨e, e'⟩))
    · rw [e']; exact bad 3 (.inr rfl) (tight_err (.inr ⟨e, e'⟩))
  · rw [e]; exact .neg (by decide) (bad 2 (.inl rfl) (tight_err (.inl e)))
  · rw [e]; exact .neg (by decide) (bad 3 (.inr rfl) (tight_err (.inl e)))
end Go.Proofs.Rcp
