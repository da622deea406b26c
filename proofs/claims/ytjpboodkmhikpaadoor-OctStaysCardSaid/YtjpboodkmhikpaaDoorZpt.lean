/- Plain law: points of zones: what is done with a zone keeps them; widened over and over. -/
import Derived.Test.YtjpboodkmhikpaaDoorZk
import Derived.Test.YtjpboodkmhikpaaDoorZones
set_option linter.unusedVariables false
namespace Go.Proofs.Rcn

/-- A step on each place by itself. -/
theorem cg_rep_set (f : Cel → Nat → Cel) (L : List Cel) : ∀ m, m ≤ L.length → ∀ j, cg (rep (fun X i => X.set i (f (cg X i) i)) m L) j = if j < m then f (cg L j) j else cg L j := by
  intro m
  induction m with
  | zero => intro _ j; simp [rep]
  | succ m ih =>
    intro hm j
    have hl : (rep (fun X i => X.set i (f (cg X i) i)) m L).length = L.length := rep_length (f := fun X i => X.set i (f (cg X i) i)) (fun X k => by simp) m L
    rw [rep_succ, cg_set]
    by_cases e : m = j
    · subst e
      rw [if_pos ⟨rfl, by omega⟩, if_pos (by omega), ih (by omega), if_neg (by omega)]
    · rw [if_neg (fun h => e h.1), ih (by omega)]
      by_cases hj : j < m
      · rw [if_pos hj, if_pos (by omega)]
      · rw [if_neg hj, if_neg (by omega)]

/-- A bound that is gone beyond is none. -/
def widC (c d : Cel) : Cel := if (c.has && (!d.has || decide (d.most > c.most))) = true then ⟨false, 0⟩ else c
def widL (L K : List Cel) : List Cel := rep (fun X i => X.set i (widC (cg X i) (cg K i))) L.length L
theorem widL_length (L K : List Cel) : (widL L K).length = L.length := rep_length (f := fun X i => X.set i (widC (cg X i) (cg K i))) (fun X k => by simp) _ L
theorem cg_widL (L K : List Cel) (j : Nat) : cg (widL L K) j = widC (cg L j) (cg K j) := by
  unfold widL
  rw [cg_rep_set (fun c i => widC c (cg K i)) L L.length (Nat.le_refl _)]
  split
  · rfl
  · rename_i h
    rw [cg_out (by omega : L.length ≤ j)]
    rfl
theorem widC_cases (c d : Cel) : widC c d = c ∨ (c.has = true ∧ widC c d = ⟨false, 0⟩) := by
  unfold widC
  split
  · rename_i h
    simp only [Bool.and_eq_true] at h
    exact .inr ⟨h.1, rfl⟩
  · exact .inl rfl

/-- How many bounds there are. -/
def hasC (L : List Cel) : Nat := L.countP (·.has)
theorem hasC_le (L : List Cel) : hasC L ≤ L.length := List.countP_le_length
theorem hasC_less : ∀ X Y : List Cel, X.length = Y.length → (∀ j, cg Y j = cg X j ∨ ((cg X j).has = true ∧ (cg Y j).has = false)) → hasC Y ≤ hasC X ∧ (Y = X ∨ hasC Y + 1 ≤ hasC X)
  | [], [], _, _ => ⟨Nat.le_refl _, .inl rfl⟩
  | x :: X, y :: Y, hl, h => by
    have ih := hasC_less X Y (by simpa using hl) (fun j => by simpa [cg] using h (j + 1))
    have h0 : y = x ∨ (x.has = true ∧ y.has = false) := by simpa [cg] using h 0
    unfold hasC at ih ⊢
    rw [List.countP_cons, List.countP_cons]
    rcases h0 with rfl | ⟨hx, hy⟩
    · refine ⟨by omega, ?_⟩
      rcases ih.2 with rfl | h2
      · exact .inl rfl
      · exact .inr (by omega)
    · rw [hx, hy]
      simp only [if_true, Bool.false_eq_true, if_false]
      exact ⟨by omega, .inr (by omega)⟩

/-- What can still come: once more where there is no point yet. -/
def mz (n len : Nat) (X : List Cel) : Nat := if closeZ n X = none then len + 1 else hasC X
theorem mz_le {n len : Nat} {X : List Cel} (h : X.length = len) : mz n len X ≤ len + 1 := by
  unfold mz
  split
  · exact Nat.le_refl _
  · have := hasC_le X
    omega
theorem fine_some {n : Nat} (hn : n ≤ 5) {L : List Cel} (hL : L.length = n * n) (hN : Near 1099511627776 L) (hf : Fine (Bd n (diag n L))) : closeZ n L ≠ none := fun h => (closeZ_none hn hL hN).1 h hf
theorem some_fine {n : Nat} (hn : n ≤ 5) {L : List Cel} (hL : L.length = n * n) (hN : Near 1099511627776 L) (h : closeZ n L ≠ none) : Fine (Bd n (diag n L)) := Classical.byContradiction fun q => h ((closeZ_none hn hL hN).2 q)
/-- Fewer bounds: still a point. -/
theorem diag_less {n : Nat} {L M : List Cel} (hL : L.length = n * n) (hM : M.length = n * n) (h : ∀ i j v, Bd n M i j v → Path (Bd n (diag n L)) i j v) (hf : Fine (Bd n (diag n L))) : Fine (Bd n (diag n M)) := by
  refine Fine.mono (C := Path (Bd n (diag n L))) (fun i j v q => ?_) (fine_path hf)
  rcases (bd_diag hM i j v).1 q with q | ⟨rfl, hi, hv⟩
  · exact h i j v q
  · exact .one ((bd_diag hL i i v).2 (.inr ⟨rfl, hi, hv⟩))
/-- A closed one has a point. -/
theorem closed_some {n : Nat} (hn : n ≤ 5) {L C : List Cel} (hL : L.length = n * n) (hN : Near 1099511627776 L) (h : closeZ n L = some C) : C.length = n * n ∧ Near 1099511627776 C ∧ Fine (Bd n (diag n C)) ∧ closeZ n C ≠ none := by
  have hf := some_fine hn hL hN (by rw [h]; simp)
  rw [closeZ_eq hn hL hN, if_pos ((ok_fine hL).2 hf)] at h
  have hC := Option.some.inj h
  have hl : C.length = n * n := by rw [← hC, List.length_map, free_length' hL]
  have hnear : Near 1099511627776 C := by rw [← hC]; exact near_clip _
  have hfC : Fine (Bd n (diag n C)) := diag_less hL hl (fun i j v q => by
    rw [← hC] at q
    exact (free_path hL hf i j v).1 (bd_clip q)) hf
  exact ⟨hl, hnear, hfC, fine_some hn hl hnear hfC⟩
theorem near_widL {b : Nat} {L K : List Cel} (h : Near b L) : Near b (widL L K) := fun j => by
  rw [cg_widL]
  rcases widC_cases (cg L j) (cg K j) with e | ⟨_, e⟩ <;> rw [e]
  · exact h j
  · simp
theorem wid_step {n len : Nat} (hn : n ≤ 5) {X K : List Cel} (hX : X.length = n * n) (hl : n * n = len) (hN : Near 1099511627776 X) (h : closeZ n X ≠ none) : (widL X K).length = len ∧ closeZ n (widL X K) ≠ none ∧ (widL X K = X ∨ mz n len (widL X K) + 1 ≤ mz n len X) := by
  have hf := some_fine hn hX hN h
  have hlw : (widL X K).length = n * n := by rw [widL_length, hX]
  have hs : closeZ n (widL X K) ≠ none := fine_some hn hlw (near_widL hN) (diag_less hX hlw (fun i j v q => by
    refine .one ((bd_diag hX i j v).2 (.inl ?_))
    unfold Bd at q ⊢
    rw [cg_widL] at q
    rcases widC_cases (cg X (i * n + j)) (cg K (i * n + j)) with e | ⟨_, e⟩ <;> rw [e] at q
    · exact q
    · simp at q) hf)
  refine ⟨by rw [hlw, hl], hs, ?_⟩
  have := (hasC_less X (widL X K) (by rw [widL_length]) (fun j => by
    rw [cg_widL]
    rcases widC_cases (cg X j) (cg K j) with e | ⟨h1, e⟩ <;> rw [e]
    · exact .inl rfl
    · exact .inr ⟨h1, rfl⟩)).2
  rcases this with e | e
  · exact .inl e
  · refine .inr ?_
    unfold mz
    rw [if_neg hs, if_neg h]
    exact e
end Go.Proofs.Rcn

namespace Go.Proofs.Rcp
open Go.RowKit Go.Proofs.Rcg Go.Proofs.Rcn

theorem zErr_ok {N : Int} {L : List Cel} {n : Nat} (hn : N + 1 = n) (h1 : 1 ≤ n) (h5 : n ≤ 5) (hl : L.length = n * n) (hN : Norm L) (hb : Near 1099511627776 L) : zErr N L = none := by
  rw [zErr_eq, if_neg (by omega), if_neg (by rw [hl, hn]; push_cast; simp), if_neg, if_neg]
  · intro h
    obtain ⟨k, _, hk⟩ := (anyFar L).1 h
    have := hb k
    unfold zfar at hk
    have := of_decide_eq_true hk
    omega
  · rw [anyBad_false fun j hj => ?_]
    · decide
    · unfold bad
      cases hh : (cg L j).has with
      | true => rfl
      | false => rw [hN j hh]; rfl
theorem near_of {N : Int} {L : List Cel} (h : zErr N L = none) : Near 1099511627776 L := by
  obtain ⟨n, hn, h1, h5, hl, _, hf⟩ := zErr_none h
  intro k
  by_cases hk : k < L.length
  · have := hf k hk
    unfold zfar at this
    have := of_decide_eq_false this
    omega
  · rw [cg_out (by omega)]
    simp
theorem hasAll_sat (n : Nat) (L : List Cel) (p : List Int) : hasAll n L p = true ↔ Sat (Bd n L) (fun i => p.getD i 0) := by
  unfold hasAll Sat Bd
  simp only [List.all_eq_true, List.mem_range, Bool.or_eq_true, Bool.not_eq_true', decide_eq_true_eq]
  constructor
  · rintro h i j v ⟨hi, hj, h1, h2⟩
    rcases h i hi j hj with h | h
    · rw [h1] at h; cases h
    · omega
  · intro h i hi j hj
    cases hh : (cg L (i * n + j)).has with
    | false => exact .inl rfl
    | true => exact .inr (h i j _ ⟨hi, hj, hh, Int.le_refl _⟩)
theorem sat_diag {n : Nat} {L : List Cel} (hL : L.length = n * n) {p : Nat → Int} (hs : Sat (Bd n L) p) : Sat (Bd n (diag n L)) p := by
  intro i j v q
  rw [bd_diag hL] at q
  rcases q with q | ⟨rfl, _, hv⟩
  · exact hs _ _ _ q
  · omega
theorem closeZ_sat {n : Nat} (hn : n ≤ 5) {L : List Cel} (hL : L.length = n * n) (nL : Norm L) (h : Near 1099511627776 L) {p : Nat → Int} (hs : Sat (Bd n L) p) :
    ∃ C, closeZ n L = some C ∧ C.length = n * n ∧ Norm C ∧ Near 1099511627776 C ∧ Sat (Bd n C) p := by
  have hd := sat_diag hL hs
  have hf : Fine (Bd n (diag n L)) := hd.fine
  exact ⟨(preFree n L).map clipC, by rw [closeZ_eq hn hL h, if_pos ((ok_fine hL).2 hf)], by simp [free_length' hL], norm_clip (norm_free nL), near_clip _, fun i j v q => hd.path _ _ _ ((free_path hL hf i j v).1 (bd_clip q))⟩
theorem cells_all {n : Nat} {L : List Cel} (hL : L.length = n * n) {P : Cel → Prop} (h0 : P ⟨false, 0⟩) (h : ∀ i j, i < n → j < n → P (cg L (i * n + j))) (k : Nat) : P (cg L k) := by
  by_cases hk : k < n * n
  · have hn : 0 < n := by
      rcases Nat.eq_zero_or_pos n with h | h
      · subst h; omega
      · exact h
    have := h (k / n) (k % n) ((Nat.div_lt_iff_lt_mul hn).2 hk) (Nat.mod_lt _ hn)
    rwa [show k / n * n + k % n = k by rw [Nat.mul_comm]; exact Nat.div_add_mod k n] at this
  · rw [cg_out (by omega)]; exact h0
theorem cg_set2 {n a b i j : Nat} {L : List Cel} (hL : L.length = n * n) (ha : a < n) (hb : b < n) (hj : j < n) (c : Cel) : cg (L.set (a * n + b) c) (i * n + j) = if i = a ∧ j = b then c else cg L (i * n + j) := by
  rw [cg_set]
  by_cases e : i = a ∧ j = b
  · obtain ⟨rfl, rfl⟩ := e
    rw [if_pos ⟨rfl, by rw [hL]; exact idx_lt ha hb⟩, if_pos ⟨rfl, rfl⟩]
  · rw [if_neg e, if_neg fun q => e ?_]
    have := idx_inj hb hj q.1
    exact ⟨this.1.symm, this.2.symm⟩
theorem forgetI_length (n x L i) : (forgetI n x L i).length = L.length := by simp [forgetI]
theorem forgetL_length (n x L) : (forgetL n x L).length = L.length := by rw [forgetL, List.length_set, rep_length (forgetI_length n x)]
theorem cg_forgetI {n x : Nat} {L : List Cel} (hL : L.length = n * n) (hx : x < n) {i j : Nat} (hi : i < n) (hj : j < n) : ∀ q, q ≤ n → cg (rep (forgetI n x) q L) (i * n + j) = if (j = x ∧ i < q) ∨ (i = x ∧ j < q) then ⟨false, 0⟩ else cg L (i * n + j)
  | 0, _ => by rw [if_neg (by omega)]; rfl
  | q + 1, hq => by
    have hl : (rep (forgetI n x) q L).length = n * n := by rw [rep_length (forgetI_length n x)]; exact hL
    rw [rep_succ, forgetI, cg_set2 (by rw [List.length_set]; exact hl) hx (by omega) hj, cg_set2 hl (by omega) hx hj, cg_forgetI hL hx hi hj q (by omega)]
    by_cases e : (j = x ∧ i < q + 1) ∨ (i = x ∧ j < q + 1)
    · rw [if_pos e]
      split
      · rfl
      · split
        · rfl
        · rw [if_pos (by omega)]
    · rw [if_neg e, if_neg (by omega), if_neg (by omega), if_neg (by omega)]
theorem cg_forget {n x : Nat} {L : List Cel} (hL : L.length = n * n) (hx : x < n) {i j : Nat} (hi : i < n) (hj : j < n) : cg (forgetL n x L) (i * n + j) = if i = x ∧ j = x then ⟨true, 0⟩ else if i = x ∨ j = x then ⟨false, 0⟩ else cg L (i * n + j) := by
  rw [forgetL, cg_set2 (by rw [rep_length (forgetI_length n x)]; exact hL) hx hx hj, cg_forgetI hL hx hi hj n (Nat.le_refl _)]
  by_cases e : i = x ∧ j = x
  · rw [if_pos e, if_pos e]
  · rw [if_neg e, if_neg e]
    by_cases e2 : i = x ∨ j = x
    · rw [if_pos e2, if_pos (by omega)]
    · rw [if_neg e2, if_neg (by omega)]
theorem norm_forget {n x : Nat} {L : List Cel} (hL : L.length = n * n) (hx : x < n) (h : Norm L) : Norm (forgetL n x L) := by
  refine cells_all (P := fun c => c.has = false → c.most = 0) (by rw [forgetL_length]; exact hL) (fun _ => rfl) fun i j hi hj => ?_
  rw [cg_forget hL hx hi hj]
  split
  · simp
  · split
    · simp
    · exact h _
theorem near_forget {n x b : Nat} {L : List Cel} (hL : L.length = n * n) (hx : x < n) (h : Near b L) : Near b (forgetL n x L) := by
  refine cells_all (P := fun c => c.most ≤ b ∧ -(b : Int) ≤ c.most) (by rw [forgetL_length]; exact hL) ⟨by simp, by simp⟩ fun i j hi hj => ?_
  rw [cg_forget hL hx hi hj]
  split
  · simp
  · split
    · simp
    · exact h _
theorem sat_forget {n x : Nat} {L : List Cel} (hL : L.length = n * n) (hx : x < n) {p q : Nat → Int} (hs : Sat (Bd n L) p) (hq : ∀ i, i ≠ x → q i = p i) : Sat (Bd n (forgetL n x L)) q := by
  rintro i j v ⟨hi, hj, h1, h2⟩
  rw [cg_forget hL hx hi hj] at h1 h2
  by_cases e : i = x ∧ j = x
  · rw [if_pos e] at h2
    obtain ⟨rfl, rfl⟩ := e
    simp at h2
    omega
  · rw [if_neg e] at h1 h2
    by_cases e2 : i = x ∨ j = x
    · rw [if_pos e2] at h1
      cases h1
    · rw [if_neg e2] at h1 h2
      have := hs i j v ⟨hi, hj, h1, h2⟩
      rw [hq i (by omega), hq j (by omega)]
      exact this

theorem shiftI_length (n x c L i) : (shiftI n x c L i).length = L.length := by unfold shiftI; split <;> simp
theorem cg_shift {n x : Nat} {c : Int} {L : List Cel} (hL : L.length = n * n) (hx : x < n) {i j : Nat} (hi : i < n) (hj : j < n) : ∀ q, q ≤ n →
    cg (rep (shiftI n x c) q L) (i * n + j) = if j = x ∧ i < q ∧ i ≠ x then addC (cg L (i * n + j)) c else if i = x ∧ j < q ∧ j ≠ x then addC (cg L (i * n + j)) (-c) else cg L (i * n + j)
  | 0, _ => by rw [if_neg (by omega), if_neg (by omega)]; rfl
  | q + 1, hq => by
    have hl : (rep (shiftI n x c) q L).length = n * n := by rw [rep_length (shiftI_length n x c)]; exact hL
    rw [rep_succ, shiftI]
    by_cases hqx : q = x
    · have hA : (j = x ∧ i < q ∧ i ≠ x) ↔ (j = x ∧ i < q + 1 ∧ i ≠ x) := by omega
      have hB : (i = x ∧ j < q ∧ j ≠ x) ↔ (i = x ∧ j < q + 1 ∧ j ≠ x) := by omega
      rw [if_pos hqx, cg_shift hL hx hi hj q (by omega)]
      simp only [hA, hB]
    · rw [if_neg hqx]
      simp only
      rw [cg_set2 (by rw [List.length_set]; exact hl) hx (by omega) hj, cg_set2 hl (by omega) hx hj, cg_set2 hl (by omega) hx (by omega), cg_shift hL hx hi hj q (by omega), cg_shift hL hx hx (show q < n by omega) q (by omega), cg_shift hL hx (show q < n by omega) hx q (by omega)]
      by_cases e1 : i = x ∧ j = q
      · obtain ⟨rfl, rfl⟩ := e1
        rw [if_pos ⟨rfl, rfl⟩, if_neg (by omega), if_neg (by omega), if_neg (by omega), if_neg (by omega), if_pos (by omega)]
      · rw [if_neg e1]
        by_cases e2 : i = q ∧ j = x
        · obtain ⟨rfl, rfl⟩ := e2
          rw [if_pos ⟨rfl, rfl⟩, if_neg (by omega), if_neg (by omega), if_pos (by omega)]
        · rw [if_neg e2]
          have hA : (j = x ∧ i < q ∧ i ≠ x) ↔ (j = x ∧ i < q + 1 ∧ i ≠ x) := by omega
          have hB : (i = x ∧ j < q ∧ j ≠ x) ↔ (i = x ∧ j < q + 1 ∧ j ≠ x) := by omega
          simp only [hA, hB]
theorem addC_eq {c : Cel} {m : Int} (h : -4611686018427387904 ≤ c.most ∧ c.most ≤ 4611686018427387904) (hm : -4611686018427387904 ≤ m ∧ m ≤ 4611686018427387903) : addC c m = if c.has = true then ⟨true, c.most + m⟩ else c := by
  unfold addC
  rw [show wrap64 (c.most + m) = c.most + m by unfold wrap64; omega]
theorem assignL_length (n x y c L) : (assignL n x y c L).length = L.length := by
  unfold assignL
  split
  · rw [rep_length (shiftI_length n x c)]
  · simp [forgetL_length]
/-- Each cell of a zone in which a variable becomes another one and c. -/
theorem cg_assign {n x y b : Nat} {c : Int} {L : List Cel} (hL : L.length = n * n) (hx : x < n) (hy : y < n) (hN : Near b L) (hb : b ≤ 1099511627776) (hc : -1099511627776 ≤ c ∧ c ≤ 1099511627776) {i j : Nat} (hi : i < n) (hj : j < n) :
    cg (assignL n x y c L) (i * n + j) =
      if x = y then (if i = x ∧ j = x then cg L (i * n + j) else if j = x then (if (cg L (i * n + j)).has = true then ⟨true, (cg L (i * n + j)).most + c⟩ else cg L (i * n + j)) else if i = x then (if (cg L (i * n + j)).has = true then ⟨true, (cg L (i * n + j)).most - c⟩ else cg L (i * n + j)) else cg L (i * n + j))
      else if i = x ∧ j = x then ⟨true, 0⟩ else if i = y ∧ j = x then ⟨true, c⟩ else if i = x ∧ j = y then ⟨true, -c⟩ else if i = x ∨ j = x then ⟨false, 0⟩ else cg L (i * n + j) := by
  unfold assignL
  have hk := hN (i * n + j)
  by_cases e : x = y
  · rw [if_pos e, if_pos e, cg_shift hL hx hi hj n (Nat.le_refl _)]
    by_cases e0 : i = x ∧ j = x
    · rw [if_pos e0, if_neg (by omega), if_neg (by omega)]
    · rw [if_neg e0]
      by_cases e1 : j = x
      · rw [if_pos e1, if_pos (by omega), addC_eq (by omega) (by omega)]
      · rw [if_neg e1, if_neg (by omega)]
        by_cases e2 : i = x
        · rw [if_pos e2, if_pos (by omega), addC_eq (by omega) (by omega)]
          rfl
        · rw [if_neg e2, if_neg (by omega)]
  · rw [if_neg e, if_neg e, cg_set2 (by rw [List.length_set, forgetL_length]; exact hL) hx hy hj, cg_set2 (by rw [forgetL_length]; exact hL) hy hx hj, cg_forget hL hx hi hj]
    by_cases e0 : i = x ∧ j = x
    · rw [if_pos e0, if_neg (by omega), if_neg (by omega), if_pos e0]
    · rw [if_neg e0, if_neg e0]
      by_cases e1 : i = y ∧ j = x
      · rw [if_pos e1, if_neg (by omega), if_pos e1]
      · rw [if_neg e1, if_neg e1]
theorem norm_assign {n x y b : Nat} {c : Int} {L : List Cel} (hL : L.length = n * n) (hx : x < n) (hy : y < n) (hN : Near b L) (hb : b ≤ 1099511627776) (hc : -1099511627776 ≤ c ∧ c ≤ 1099511627776) (h : Norm L) : Norm (assignL n x y c L) := by
  refine cells_all (P := fun c => c.has = false → c.most = 0) (by rw [assignL_length]; exact hL) (fun _ => rfl) fun i j hi hj => ?_
  rw [cg_assign hL hx hy hN hb hc hi hj]
  have := h (i * n + j)
  repeat' split
  all_goals first | exact this | simp
theorem near_assign {n x y b d : Nat} {c : Int} {L : List Cel} (hL : L.length = n * n) (hx : x < n) (hy : y < n) (hN : Near b L) (hb : b ≤ 1099511627776) (hc : -1099511627776 ≤ c ∧ c ≤ 1099511627776) (hd : c ≤ d ∧ -(d : Int) ≤ c) : Near (b + d) (assignL n x y c L) := by
  refine cells_all (P := fun c => c.most ≤ (b + d : Nat) ∧ -((b + d : Nat) : Int) ≤ c.most) (by rw [assignL_length]; exact hL) ⟨by simp only; omega, by simp only; omega⟩ fun i j hi hj => ?_
  rw [cg_assign hL hx hy hN hb hc hi hj]
  have := hN (i * n + j)
  repeat' split
  all_goals first | omega | (simp only; omega)
theorem sat_assign {n x y b : Nat} {c : Int} {L : List Cel} (hL : L.length = n * n) (hx : x < n) (hy : y < n) (hN : Near b L) (hb : b ≤ 1099511627776) (hc : -1099511627776 ≤ c ∧ c ≤ 1099511627776) {p q : Nat → Int} (hs : Sat (Bd n L) p) (hq : ∀ i, i ≠ x → q i = p i) (hqx : q x = p y + c) : Sat (Bd n (assignL n x y c L)) q := by
  rintro i j v ⟨hi, hj, h1, h2⟩
  rw [cg_assign hL hx hy hN hb hc hi hj] at h1 h2
  have old := fun h => hs i j (cg L (i * n + j)).most ⟨hi, hj, h, Int.le_refl _⟩
  by_cases e : x = y
  · rw [if_pos e] at h1 h2
    subst e
    by_cases e0 : i = x ∧ j = x
    · rw [if_pos e0] at h1 h2
      obtain ⟨rfl, rfl⟩ := e0
      have := old h1
      omega
    · rw [if_neg e0] at h1 h2
      by_cases e1 : j = x
      · subst e1
        rw [if_pos rfl] at h1 h2
        by_cases hh : (cg L (i * n + j)).has = true
        · rw [if_pos hh] at h2
          have := old hh
          have := hq i (by omega)
          simp only at h2
          omega
        · rw [if_neg hh] at h1
          exact absurd h1 hh
      · rw [if_neg e1] at h1 h2
        by_cases e2 : i = x
        · subst e2
          rw [if_pos rfl] at h1 h2
          by_cases hh : (cg L (i * n + j)).has = true
          · rw [if_pos hh] at h2
            have := old hh
            have := hq j (by omega)
            simp only at h2
            omega
          · rw [if_neg hh] at h1
            exact absurd h1 hh
        · rw [if_neg e2] at h1 h2
          have := old h1
          have := hq i (by omega)
          have := hq j (by omega)
          omega
  · rw [if_neg e] at h1 h2
    by_cases e0 : i = x ∧ j = x
    · rw [if_pos e0] at h2
      obtain ⟨rfl, rfl⟩ := e0
      simp only at h2
      omega
    · rw [if_neg e0] at h1 h2
      by_cases e1 : i = y ∧ j = x
      · rw [if_pos e1] at h2
        obtain ⟨rfl, rfl⟩ := e1
        have := hq i (by omega)
        simp only at h2
        omega
      · rw [if_neg e1] at h1 h2
        by_cases e2 : i = x ∧ j = y
        · rw [if_pos e2] at h2
          obtain ⟨rfl, rfl⟩ := e2
          have := hq j (by omega)
          simp only at h2
          omega
        · rw [if_neg e2] at h1 h2
          by_cases e3 : i = x ∨ j = x
          · rw [if_pos e3] at h1
            cases h1
          · rw [if_neg e3] at h1 h2
            have := old h1
            have := hq i (by omega)
            have := hq j (by omega)
            omega
theorem joinL_length (C K : List Cel) : (joinL C K).length = C.length := rep_length (f := fun X i => X.set i (joinC (cg X i) (cg K i))) (fun X k => by simp) _ C
theorem cg_joinL {C K : List Cel} (h : K.length = C.length) (j : Nat) : cg (joinL C K) j = if j < C.length then joinC (cg C j) (cg K j) else cg C j := by
  unfold joinL
  rw [cg_rep_set (fun c i => joinC c (cg K i)) C K.length (by omega) j, h]
theorem joinC_cases (c d : Cel) : joinC c d = ⟨false, 0⟩ ∨ joinC c d = c ∨ (c.has = true ∧ d.has = true ∧ joinC c d = ⟨true, max c.most d.most⟩) := by
  unfold joinC
  by_cases h1 : d.has = true
  · rw [if_pos h1]
    by_cases h2 : c.has = true
    · rw [if_pos h2]; exact .inr (.inr ⟨h2, h1, rfl⟩)
    · rw [if_neg h2]; exact .inr (.inl rfl)
  · rw [if_neg h1]; exact .inl rfl
theorem norm_joinL {C K : List Cel} (h : K.length = C.length) (hC : Norm C) : Norm (joinL C K) := by
  intro k
  rw [cg_joinL h]
  split
  · rcases joinC_cases (cg C k) (cg K k) with e | e | ⟨_, _, e⟩ <;> rw [e]
    · simp
    · exact hC k
    · simp
  · exact hC k
theorem near_joinL {b : Nat} {C K : List Cel} (h : K.length = C.length) (hC : Near b C) (hK : Near b K) : Near b (joinL C K) := by
  intro k
  rw [cg_joinL h]
  have h1 := hC k
  have h2 := hK k
  split
  · rcases joinC_cases (cg C k) (cg K k) with e | e | ⟨_, _, e⟩ <;> rw [e]
    · simp
    · exact h1
    · simp only
      omega
  · exact h1
theorem bd_joinL {n : Nat} {C K : List Cel} (h : K.length = C.length) {i j : Nat} {v : Int} (q : Bd n (joinL C K) i j v) : Bd n C i j v := by
  obtain ⟨hi, hj, h1, h2⟩ := q
  rw [cg_joinL h] at h1 h2
  refine ⟨hi, hj, ?_⟩
  split at h1
  · rename_i hk
    rw [if_pos hk] at h2
    rcases joinC_cases (cg C (i * n + j)) (cg K (i * n + j)) with e | e | ⟨e1, _, e⟩
    · rw [e] at h1; cases h1
    · rw [e] at h1 h2; exact ⟨h1, h2⟩
    · rw [e] at h2; simp only at h2; exact ⟨e1, by omega⟩
  · rename_i hk
    rw [if_neg hk] at h2
    exact ⟨h1, h2⟩
end Go.Proofs.Rcp
