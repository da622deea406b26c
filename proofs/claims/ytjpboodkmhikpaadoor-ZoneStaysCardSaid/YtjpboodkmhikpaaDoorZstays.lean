/- Plain law: widened over and over, a zone changes at most so often as it has cells, and once more. No program. -/
import Derived.Test.YtjpboodkmhikpaaDoorZones
namespace Go.Proofs.Rcn

/-- A step on each place by itself. -/
theorem cg_rep_set (f : Cel → Nat → Cel) (L : List Cel) : ∀ m, m ≤ L.length → ∀ j, cg (rep (fun X i => X.set i (f (cg X i) i)) m L) j = if j < m then f (cg L j) j else cg L j := by
  intro m
  induction m with
  | zero => intro _ j; simp [rep]
  | succ m ih =>
    intro hm j
    have hl : (rep (fun X i => X.set i (f (cg X i) i)) m L).length = L.length := rep_length (f := fun X i => X.set i (f (cg X i) i)) (fun X k => by simp) m L
    rw [rep_succ, cg_set]
    by_cases e : m = j
    · subst e
      rw [if_pos ⟨rfl, by omega⟩, if_pos (by omega), ih (by omega), if_neg (by omega)]
    · rw [if_neg (fun h => e h.1), ih (by omega)]
      by_cases hj : j < m
      · rw [if_pos hj, if_pos (by omega)]
      · rw [if_neg hj, if_neg (by omega)]

/-- A bound that is gone beyond is none. -/
def widC (c d : Cel) : Cel := if (c.has && (!d.has || decide (d.most > c.most))) = true then ⟨false, 0⟩ else c
def widL (L K : List Cel) : List Cel := rep (fun X i => X.set i (widC (cg X i) (cg K i))) L.length L
theorem widL_length (L K : List Cel) : (widL L K).length = L.length := rep_length (f := fun X i => X.set i (widC (cg X i) (cg K i))) (fun X k => by simp) _ L
theorem cg_widL (L K : List Cel) (j : Nat) : cg (widL L K) j = widC (cg L j) (cg K j) := by
  unfold widL
  rw [cg_rep_set (fun c i => widC c (cg K i)) L L.length (Nat.le_refl _)]
  split
  · rfl
  · rename_i h
    rw [cg_out (by omega : L.length ≤ j)]
    rfl
theorem widC_cases (c d : Cel) : widC c d = c ∨ (c.has = true ∧ widC c d = ⟨false, 0⟩) := by
  unfold widC
  split
  · rename_i h
    simp only [Bool.and_eq_true] at h
    exact .inr ⟨h.1, rfl⟩
  · exact .inl rfl

/-- How many bounds there are. -/
def hasC (L : List Cel) : Nat := L.countP (·.has)
theorem hasC_le (L : List Cel) : hasC L ≤ L.length := List.countP_le_length
theorem hasC_less : ∀ X Y : List Cel, X.length = Y.length → (∀ j, cg Y j = cg X j ∨ ((cg X j).has = true ∧ (cg Y j).has = false)) → hasC Y ≤ hasC X ∧ (Y = X ∨ hasC Y + 1 ≤ hasC X)
  | [], [], _, _ => ⟨Nat.le_refl _, .inl rfl⟩
  | x :: X, y :: Y, hl, h => by
    have ih := hasC_less X Y (by simpa using hl) (fun j => by simpa [cg] using h (j + 1))
    have h0 : y = x ∨ (x.has = true ∧ y.has = false) := by simpa [cg] using h 0
    unfold hasC at ih ⊢
    rw [List.countP_cons, List.countP_cons]
    rcases h0 with rfl | ⟨hx, hy⟩
    · refine ⟨by omega, ?_⟩
      rcases ih.2 with rfl | h2
      · exact .inl rfl
      · exact .inr (by omega)
    · rw [hx, hy]
      simp only [if_true, Bool.false_eq_true, if_false]
      exact ⟨by omega, .inr (by omega)⟩

/-- What can still come: once more where there is no point yet. -/
def mz (n len : Nat) (X : List Cel) : Nat := if closeZ n X = none then len + 1 else hasC X
theorem mz_le {n len : Nat} {X : List Cel} (h : X.length = len) : mz n len X ≤ len + 1 := by
  unfold mz
  split
  · exact Nat.le_refl _
  · have := hasC_le X
    omega
theorem fine_some {n : Nat} (hn : n ≤ 5) {L : List Cel} (hL : L.length = n * n) (hN : Near 1099511627776 L) (hf : Fine (Bd n (diag n L))) : closeZ n L ≠ none := fun h => (closeZ_none hn hL hN).1 h hf
theorem some_fine {n : Nat} (hn : n ≤ 5) {L : List Cel} (hL : L.length = n * n) (hN : Near 1099511627776 L) (h : closeZ n L ≠ none) : Fine (Bd n (diag n L)) := Classical.byContradiction fun q => h ((closeZ_none hn hL hN).2 q)
/-- Fewer bounds: still a point. -/
theorem diag_less {n : Nat} {L M : List Cel} (hL : L.length = n * n) (hM : M.length = n * n) (h : ∀ i j v, Bd n M i j v → Path (Bd n (diag n L)) i j v) (hf : Fine (Bd n (diag n L))) : Fine (Bd n (diag n M)) := by
  refine Fine.mono (C := Path (Bd n (diag n L))) (fun i j v q => ?_) (fine_path hf)
  rcases (bd_diag hM i j v).1 q with q | ⟨rfl, hi, hv⟩
  · exact h i j v q
  · exact .one ((bd_diag hL i i v).2 (.inr ⟨rfl, hi, hv⟩))
/-- A closed one has a point. -/
theorem closed_some {n : Nat} (hn : n ≤ 5) {L C : List Cel} (hL : L.length = n * n) (hN : Near 1099511627776 L) (h : closeZ n L = some C) : C.length = n * n ∧ Near 1099511627776 C ∧ Fine (Bd n (diag n C)) ∧ closeZ n C ≠ none := by
  have hf := some_fine hn hL hN (by rw [h]; simp)
  rw [closeZ_eq hn hL hN, if_pos ((ok_fine hL).2 hf)] at h
  have hC := Option.some.inj h
  have hl : C.length = n * n := by rw [← hC, List.length_map, free_length' hL]
  have hnear : Near 1099511627776 C := by rw [← hC]; exact near_clip _
  have hfC : Fine (Bd n (diag n C)) := diag_less hL hl (fun i j v q => by
    rw [← hC] at q
    exact (free_path hL hf i j v).1 (bd_clip q)) hf
  exact ⟨hl, hnear, hfC, fine_some hn hl hnear hfC⟩
theorem near_widL {b : Nat} {L K : List Cel} (h : Near b L) : Near b (widL L K) := fun j => by
  rw [cg_widL]
  rcases widC_cases (cg L j) (cg K j) with e | ⟨_, e⟩ <;> rw [e]
  · exact h j
  · simp
theorem wid_step {n len : Nat} (hn : n ≤ 5) {X K : List Cel} (hX : X.length = n * n) (hl : n * n = len) (hN : Near 1099511627776 X) (h : closeZ n X ≠ none) : (widL X K).length = len ∧ closeZ n (widL X K) ≠ none ∧ (widL X K = X ∨ mz n len (widL X K) + 1 ≤ mz n len X) := by
  have hf := some_fine hn hX hN h
  have hlw : (widL X K).length = n * n := by rw [widL_length, hX]
  have hs : closeZ n (widL X K) ≠ none := fine_some hn hlw (near_widL hN) (diag_less hX hlw (fun i j v q => by
    refine .one ((bd_diag hX i j v).2 (.inl ?_))
    unfold Bd at q ⊢
    rw [cg_widL] at q
    rcases widC_cases (cg X (i * n + j)) (cg K (i * n + j)) with e | ⟨_, e⟩ <;> rw [e] at q
    · exact q
    · simp at q) hf)
  refine ⟨by rw [hlw, hl], hs, ?_⟩
  have := (hasC_less X (widL X K) (by rw [widL_length]) (fun j => by
    rw [cg_widL]
    rcases widC_cases (cg X j) (cg K j) with e | ⟨h1, e⟩ <;> rw [e]
    · exact .inl rfl
    · exact .inr ⟨h1, rfl⟩)).2
  rcases this with e | e
  · exact .inl e
  · refine .inr ?_
    unfold mz
    rw [if_neg hs, if_neg h]
    exact e
end Go.Proofs.Rcn
