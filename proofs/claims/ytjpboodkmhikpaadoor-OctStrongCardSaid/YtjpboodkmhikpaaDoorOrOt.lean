import Derived.Test.YtjpboodkmhikpaaDoorOrQf
import Derived.Test.YtjpboodkmhikpaaDoorOrZpt
/- Plain law: tight octagons: tight again, met with themselves, with a bound more. -/
set_option linter.unusedVariables false
namespace Go.Proofs.Rcp
open Go.RowKit (wrap64)
open Go.Proofs.Rcg Go.Proofs.Rcn

theorem ti_same {n : Nat} {D : Bnd} (T : Tight n D) (i j : Nat) (v : Int) : Ti D i j v ↔ D i j v := by
  constructor
  · rintro (a | ⟨e, h, g, ⟨x, p, hx⟩, ⟨y, q, hy⟩, hs⟩)
    · exact a
    · obtain ⟨h', p', hh⟩ := T.even _ _ p
      obtain ⟨g', q', hg⟩ := T.even _ _ q
      rw [op_op] at q'
      obtain ⟨v', a, hv⟩ := T.strong i j _ _ e p' q'
      exact T.shut.over.up _ _ _ _ a (by omega)
  · exact .inl
theorem odiag_tight {N : Nat} {C : List Cel} (T : TightO N C) : odiag (2 * N) C = C :=
  eq_of_bd (by rw [odiag_length]; exact T.len) T.len (norm_odiag T.norm) T.norm fun i j v => by
    rw [bd_odiag T.len]
    constructor
    · rintro (b | ⟨rfl, hi, hv⟩)
      · exact b
      · exact (bd_over _ C).up _ _ _ _ (T.tight.shut.refl i hi) hv
    · exact .inl
theorem ways_tight {N : Nat} {C : List Cel} (T : TightO N C) (i j : Nat) (v : Int) : WaysO N C i j v ↔ Bd (2 * N) C i j v := by
  unfold WaysO
  rw [odiag_tight T]
  exact ⟨fun p => T.tight.shut.path p, .one⟩
theorem bnd_eq {A B : Bnd} (h : ∀ i j v, A i j v ↔ B i j v) : A = B := funext fun i => funext fun j => funext fun v => propext (h i j v)
theorem tight_fine {N : Nat} {C : List Cel} (T : TightO N C) : Fine (Bd (2 * N) (odiag (2 * N) C)) ∧ Whole (WaysO N C) := by
  rw [bnd_eq (ways_tight T), odiag_tight T]
  exact ⟨fun i v p => T.tight.shut.fine i v (T.tight.shut.path p), T.tight.whole⟩
/-- Tight again: the same. -/
theorem closeO_tight {N b : Nat} (hN : N ≤ 4) {C : List Cel} (T : TightO N C) (hn : Near b C) (hb : b * 256 ≤ 1099511627776) : closeO (2 * N) C = some C := by
  obtain ⟨hf, hw⟩ := tight_fine T
  obtain ⟨e, T2, _, h⟩ := closeO_near hN T.len T.tight.coh T.norm hn hb hf hw
  rw [e]
  congr 1
  refine eq_of_bd T2.len T.len T2.norm T.norm fun i j v => ?_
  rw [h, bnd_eq (ways_tight T), ti_same T.tight]
theorem leastO_no {n : Nat} {L : List Cel} {i j : Nat} {h : Bool} {m : Int} (h1 : h = true → (cg L (i * n + j)).has = true ∧ (cg L (i * n + j)).most ≤ m) (h2 : h = true → (cg L (op j * n + op i)).has = true ∧ (cg L (op j * n + op i)).most ≤ m) : leastO n L i j h m = L := by
  have key : ∀ {X : List Cel} {k : Nat}, (h = true → (cg X k).has = true ∧ (cg X k).most ≤ m) → leastL X k h m = X := by
    intro X k e
    unfold leastL
    have : leastC (cg X k) h m = cg X k := by
      unfold leastC
      rw [if_neg]
      intro q
      simp only [Bool.and_eq_true, Bool.or_eq_true, Bool.not_eq_true', decide_eq_true_eq] at q
      have := e q.1
      rcases q.2 with q2 | q2
      · rw [this.1] at q2; cases q2
      · omega
    rw [this]
    exact list_ext (by simp) fun x hx => by rw [cg_set]; split <;> simp_all
  unfold leastO
  rw [key h1, key h2]
theorem metO_self {n : Nat} {L : List Cel} (hL : L.length = n * n) (hc : CohL n L) : metO n L L = L := by
  unfold metO
  refine rep_ind (P := fun X => X = L) (n := L.length) (fun X k hk e => ?_) rfl L.length (Nat.le_refl _)
  subst e
  have hn : 0 < n := by
    rcases Nat.eq_zero_or_pos n with h | h
    · subst h; omega
    · exact h
  have hi : k / n < n := (Nat.div_lt_iff_lt_mul hn).2 (by omega)
  have hj : k % n < n := Nat.mod_lt _ hn
  have e : k / n * n + k % n = k := by rw [Nat.mul_comm]; exact Nat.div_add_mod k n
  have c := hc _ hi _ hj
  refine leastO_no (fun h => ?_) (fun h => ?_)
  · rw [e]; exact ⟨h, Int.le_refl _⟩
  · rw [← c, e]; exact ⟨h, Int.le_refl _⟩
theorem joinL_same {C : List Cel} (h : Norm C) : joinL C C = C := by
  unfold joinL
  refine rep_ind (P := fun X => X = C) (n := C.length) (fun X k _ e => ?_) rfl C.length (Nat.le_refl _)
  subst e
  have : joinC (cg X k) (cg X k) = cg X k := by
    unfold joinC
    have := h k
    rcases hc : cg X k with ⟨a, m⟩
    rw [hc] at this
    cases a with
    | true => simp
    | false => simp at this; simp [this]
  rw [this, set_self]
end Go.Proofs.Rcp
