/- Plain law: what a closed row of bounds is; closed again; with a bound more. No program. -/
import Derived.Test.YtjpboodkmhikpaaDoorCells
namespace Go.Proofs.Rcn

def diag (n : Nat) (L : List Cel) : List Cel := rep (closeD n) n L
/-- Where there is no bound its number is 0. -/
def Norm (L : List Cel) : Prop := ∀ k, (cg L k).has = false → (cg L k).most = 0

theorem norm_least {L : List Cel} (h : Norm L) (k : Nat) (has : Bool) (m : Int) : Norm (leastL L k has m) := by
  intro x
  unfold leastL
  rw [cg_set]
  split
  · unfold leastC
    split
    · simp
    · exact h k
  · exact h x

theorem norm_rep {f : List Cel → Nat → List Cel} (h : ∀ L k, Norm L → Norm (f L k)) {L : List Cel} (hL : Norm L) (k : Nat) : Norm (rep f k L) :=
  rep_ind (n := k) (fun L k _ hL => h L k hL) hL k (Nat.le_refl _)

theorem norm_diag {n : Nat} {L : List Cel} (h : Norm L) : Norm (diag n L) := norm_rep (fun _ _ h => norm_least h _ _ _) h n
theorem norm_free {n : Nat} {L : List Cel} (h : Norm L) : Norm (preFree n L) :=
  norm_rep (fun _ _ h => norm_rep (fun _ _ h => norm_rep (fun _ _ h => norm_least h _ _ _) h _) h _) (norm_diag h) n

theorem diag_length (n L) : (diag n L).length = L.length := rep_length (closeD_length n) n L

theorem bd_diag {n : Nat} {L : List Cel} (hL : L.length = n * n) (i j : Nat) (v : Int) : Bd n (diag n L) i j v ↔ Bd n L i j v ∨ (i = j ∧ i < n ∧ 0 ≤ v) := by
  have key : ∀ k, k ≤ n → (Bd n (rep (closeD n) k L) i j v ↔ Bd n L i j v ∨ (i = j ∧ i < k ∧ 0 ≤ v)) := by
    intro k
    induction k with
    | zero => intro _; simp [rep]
    | succ k ih =>
      intro hk
      rw [rep_succ, show closeD n (rep (closeD n) k L) k = leastL (rep (closeD n) k L) (k * n + k) true 0 from rfl,
        bd_least (by rw [rep_length (closeD_length n), hL]) (by omega) (by omega), ih (by omega)]
      constructor
      · rintro ((h | ⟨rfl, h1, h2⟩) | ⟨_, rfl, rfl, h⟩)
        · exact .inl h
        · exact .inr ⟨rfl, by omega, h2⟩
        · exact .inr ⟨rfl, by omega, h⟩
      · rintro (h | ⟨rfl, h1, h2⟩)
        · exact .inl (.inl h)
        · rcases Nat.lt_or_ge i k with h3 | h3
          · exact .inl (.inr ⟨rfl, h3, h2⟩)
          · have : i = k := by omega
            exact .inr ⟨rfl, this, this, h2⟩
  exact key n (Nat.le_refl _)

theorem diag_refl {n : Nat} {L : List Cel} (hL : L.length = n * n) : Refl n (Bd n (diag n L)) := fun i hi => (bd_diag hL i i 0).2 (.inr ⟨rfl, hi, Int.le_refl _⟩)

/-- Two rows with the same bounds are the same. -/
theorem eq_of_bd {n : Nat} {L M : List Cel} (hL : L.length = n * n) (hM : M.length = n * n) (nL : Norm L) (nM : Norm M) (h : ∀ i j v, Bd n L i j v ↔ Bd n M i j v) : L = M := by
  refine list_ext (hL.trans hM.symm) fun k hk => ?_
  rw [hL] at hk
  have hn : 0 < n := by
    rcases Nat.eq_zero_or_pos n with h | h
    · subst h; omega
    · exact h
  have hi : k / n < n := (Nat.div_lt_iff_lt_mul hn).2 hk
  have hj : k % n < n := Nat.mod_lt _ hn
  have e : k / n * n + k % n = k := by rw [Nat.mul_comm]; exact Nat.div_add_mod k n
  have H := fun v => h (k / n) (k % n) v
  unfold Bd at H
  simp only [e, hi, hj, true_and] at H
  have nl := nL k
  have nm := nM k
  rcases hc : cg L k with ⟨a, x⟩
  rcases hd : cg M k with ⟨b, y⟩
  rw [hc, hd] at H
  rw [hc] at nl
  rw [hd] at nm
  simp only at H nl nm
  cases a <;> cases b
  · simp [nl rfl, nm rfl]
  · exact absurd ((H y).2 ⟨rfl, Int.le_refl _⟩).1 (by simp)
  · exact absurd ((H x).1 ⟨rfl, Int.le_refl _⟩).1 (by simp)
  · have h1 := ((H x).1 ⟨rfl, Int.le_refl _⟩).2
    have h2 := ((H y).2 ⟨rfl, Int.le_refl _⟩).2
    have : x = y := by omega
    simp [this]

/-! ### What a run of the rounds comes to -/
theorem free_length' {n : Nat} {L : List Cel} (hL : L.length = n * n) : (preFree n L).length = n * n := (good_free (diag n L) (by rw [diag_length]; exact hL)).1

theorem okL_iff {n : Nat} {L : List Cel} : okL n L = true ↔ ∀ i, i < n → 0 ≤ (cg L (i * n + i)).most := by
  unfold okL okAt
  simp only [List.all_eq_true, List.mem_range, Bool.not_eq_true', decide_eq_false_iff_not, Int.not_lt]

theorem diag_has {n : Nat} {L : List Cel} (hL : L.length = n * n) {i : Nat} (hi : i < n) : (cg (preFree n L) (i * n + i)).has = true ∧ (cg (preFree n L) (i * n + i)).most ≤ 0 := by
  have h1 := (good_free _ (show (diag n L).length = n * n by rw [diag_length]; exact hL)).2.1 i i 0 (diag_refl hL i hi)
  exact ⟨h1.2.2.1, h1.2.2.2⟩

theorem ok_fine {n : Nat} {L : List Cel} (hL : L.length = n * n) : okL n (preFree n L) = true ↔ Fine (Bd n (diag n L)) := by
  have hd : (diag n L).length = n * n := by rw [diag_length]; exact hL
  have g := good_free (diag n L) hd
  rw [okL_iff]
  constructor
  · intro h
    refine fine_of (R := Bd n (preFree n L)) (bd_over n _) (fun i j v b => free_fw hd n (Nat.le_refl _) i j v b) ?_
    intro i v b
    have := h i b.1
    have := b.2.2.2
    omega
  · intro hf i hi
    exact hf i _ (g.2.2 i i _ ⟨hi, hi, (diag_has hL hi).1, Int.le_refl _⟩)

/-- Where there is a point, the bounds are the ways. -/
theorem free_path {n : Nat} {L : List Cel} (hL : L.length = n * n) (hf : Fine (Bd n (diag n L))) (i j : Nat) (v : Int) : Bd n (preFree n L) i j v ↔ Path (Bd n (diag n L)) i j v := by
  have hd : (diag n L).length = n * n := by rw [diag_length]; exact hL
  have g := good_free (diag n L) hd
  constructor
  · exact g.2.2 i j v
  · intro p
    refine between (R := Bd n (preFree n L)) (bd_over n _) (fun i j v b => free_fw hd n (Nat.le_refl _) i j v b) ?_ p
    intro i v b
    exact hf i v (g.2.2 _ _ _ b)

/-- Closed: nothing is shorter than what is told; of one with itself 0. -/
structure Closed (n : Nat) (C : List Cel) : Prop where
  len : C.length = n * n
  norm : Norm C
  refl : Refl n (Bd n C)
  tri : ∀ i k j u w, Bd n C i k u → Bd n C k j w → Bd n C i j (u + w)
  fine : ∀ i v, Bd n C i i v → 0 ≤ v

theorem free_closed {n : Nat} {L : List Cel} (hL : L.length = n * n) (nL : Norm L) (hf : Fine (Bd n (diag n L))) : Closed n (preFree n L) := by
  have P := free_path hL hf
  refine ⟨free_length' hL, norm_free nL, fun i hi => (P i i 0).2 (.one (diag_refl hL i hi)), ?_, ?_⟩
  · intro i k j u w h1 h2
    exact (P _ _ _).2 (.two ((P _ _ _).1 h1) ((P _ _ _).1 h2) (Int.le_refl _))
  · intro i v h
    exact hf i v ((P _ _ _).1 h)

theorem Closed.path {n : Nat} {C : List Cel} (h : Closed n C) {i j : Nat} {v : Int} (p : Path (Bd n C) i j v) : Bd n C i j v := by
  induction p with
  | one b => exact b
  | two _ _ hs ih1 ih2 => exact (bd_over n C).up _ _ _ _ (h.tri _ _ _ _ _ ih1 ih2) hs

theorem Closed.diag_eq {n : Nat} {C : List Cel} (h : Closed n C) : diag n C = C :=
  eq_of_bd (by rw [diag_length]; exact h.len) h.len (norm_diag h.norm) h.norm fun i j v => by
    rw [bd_diag h.len]
    constructor
    · rintro (b | ⟨rfl, hi, hv⟩)
      · exact b
      · exact (bd_over n C).up _ _ _ _ (h.refl i hi) hv
    · exact .inl

theorem Closed.fineP {n : Nat} {C : List Cel} (h : Closed n C) : Fine (Bd n (diag n C)) := by
  rw [h.diag_eq]
  intro i v p
  exact h.fine i v (h.path p)

/-- Closed again it is the same. -/
theorem Closed.again {n : Nat} {C : List Cel} (h : Closed n C) : preFree n C = C :=
  eq_of_bd (free_length' h.len) h.len (norm_free h.norm) h.norm fun i j v => by
    rw [free_path h.len h.fineP, h.diag_eq]
    exact ⟨h.path, .one⟩

theorem Closed.cell {n : Nat} {C : List Cel} (h : Closed n C) {i : Nat} (hi : i < n) : cg C (i * n + i) = ⟨true, 0⟩ := by
  have h1 := h.refl i hi
  have h2 := h.fine i (cg C (i * n + i)).most ⟨hi, hi, h1.2.2.1, Int.le_refl _⟩
  have h3 := h1.2.2.2
  have h4 := h1.2.2.1
  rcases hc : cg C (i * n + i) with ⟨a, x⟩
  rw [hc] at h2 h3 h4
  simp only at h2 h3 h4
  subst h4
  have : x = 0 := by omega
  rw [this]

/-! ### Clipping -/
theorem clip_near {c : Cel} (h : c.most ≤ 1099511627776 ∧ -1099511627776 ≤ c.most) : clipC c = c := by
  unfold clipC
  rw [if_neg (by omega), if_neg (by omega)]
theorem map_clip {L : List Cel} {b : Nat} (h : Near b L) (hb : b ≤ 1099511627776) : L.map clipC = L := by
  refine list_ext (by simp) fun k hk => ?_
  have hk' : k < L.length := by simpa using hk
  have := h k
  have e : cg (L.map clipC) k = clipC (cg L k) := by
    simp [cg, List.getD_eq_getElem?_getD, List.getElem?_eq_getElem hk']
  rw [e]
  exact clip_near (by omega)
theorem cg_clip (L : List Cel) (k : Nat) : cg (L.map clipC) k = clipC (cg L k) := by
  rcases Nat.lt_or_ge k L.length with h | h
  · simp [cg, List.getD_eq_getElem?_getD, List.getElem?_eq_getElem h]
  · rw [cg_out (by simpa using h), cg_out h]
    rfl
theorem bd_clip {n : Nat} {L : List Cel} {i j : Nat} {v : Int} (h : Bd n (L.map clipC) i j v) : Bd n L i j v := by
  unfold Bd at h ⊢
  rw [cg_clip] at h
  refine ⟨h.1, h.2.1, ?_⟩
  have h2 := h.2.2
  unfold clipC at h2
  split at h2
  · simp at h2
  · split at h2
    · simp only at h2
      exact ⟨h2.1, by omega⟩
    · exact h2
theorem norm_clip {L : List Cel} (h : Norm L) : Norm (L.map clipC) := by
  intro k
  rw [cg_clip]
  have := h k
  unfold clipC
  split
  · simp
  · split
    · intro h1
      have := this h1
      omega
    · exact this
theorem near_clip (L : List Cel) : Near 1099511627776 (L.map clipC) := by
  intro k
  rw [cg_clip]
  unfold clipC
  split
  · simp
  · split
    · simp
    · omega

/-! ### The whole -/
theorem near_mono {a b : Nat} {L : List Cel} (h : Near a L) (hab : a ≤ b) : Near b L := fun k => by have := h k; omega

theorem pre_eq {n : Nat} (hn : n ≤ 5) {L : List Cel} (hL : L.length = n * n) (h : Near 1099511627776 L) : preClose n L = preFree n L :=
  (pre_free (M := 4096) hL h (cnt_five n hn) (by omega)).1

theorem closeZ_eq {n : Nat} (hn : n ≤ 5) {L : List Cel} (hL : L.length = n * n) (h : Near 1099511627776 L) :
    closeZ n L = if okL n (preFree n L) = true then some ((preFree n L).map clipC) else none := by
  unfold closeZ
  rw [pre_eq hn hL h]

theorem closeZ_none {n : Nat} (hn : n ≤ 5) {L : List Cel} (hL : L.length = n * n) (h : Near 1099511627776 L) : closeZ n L = none ↔ ¬ Fine (Bd n (diag n L)) := by
  rw [closeZ_eq hn hL h, ← ok_fine hL]
  split <;> simp_all

/-- Near bounds: the closed one. -/
theorem closeZ_near {n : Nat} (hn : n ≤ 5) {L : List Cel} {b : Nat} (hL : L.length = n * n) (nL : Norm L) (h : Near b L) (hb : b * 4096 ≤ 1099511627776) (hf : Fine (Bd n (diag n L))) :
    closeZ n L = some (preFree n L) ∧ Closed n (preFree n L) ∧ Near (b * 4096) (preFree n L) := by
  have h2 := (pre_free (M := 4096) hL h (cnt_five n hn) (by omega)).2
  refine ⟨?_, free_closed hL nL hf, h2⟩
  rw [closeZ_eq hn hL (near_mono h (by omega)), if_pos ((ok_fine hL).2 hf), map_clip h2 hb]

/-- A closed one, closed again. -/
theorem closeZ_closed {n : Nat} (hn : n ≤ 5) {C : List Cel} (h : Closed n C) (hb : Near 1099511627776 C) : closeZ n C = some C := by
  rw [closeZ_eq hn h.len hb, if_pos ((ok_fine h.len).2 h.fineP), h.again, map_clip hb (Nat.le_refl _)]

end Go.Proofs.Rcn
