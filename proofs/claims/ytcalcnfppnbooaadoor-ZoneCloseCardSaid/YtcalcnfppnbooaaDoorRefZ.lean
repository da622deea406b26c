/- Plain law: the reference's closing of a zone (sweeps) comes to the same row as the program's (FLOYD and WARSHALL). No program. -/
import Derived.Test.YtcalcnfppnbooaaDoorZones
set_option linter.unusedVariables false
namespace Go.Proofs.Rcn
open Go.RowKit (wrap64)

def swJ (n i : Nat) (L : List Cel) (j : Nat) : List Cel := rep (fun M k => closeJ n k i M j) n L
def swI (n : Nat) (L : List Cel) (i : Nat) : List Cel := rep (swJ n i) n L
def sweep (n : Nat) (L : List Cel) : List Cel := rep (swI n) n L
def sweeps (n m : Nat) (L : List Cel) : List Cel := rep (fun M _ => sweep n M) m L
def refClose (n : Nat) (L : List Cel) : Option (List Cel) := if okL n (sweeps n (n + 1) (diag n L)) = true then some ((sweeps n (n + 1) (diag n L)).map clipC) else none

/-! ### no sum wrapped -/
def fswJ (n i : Nat) (L : List Cel) (j : Nat) : List Cel := rep (fun M k => freeJ n k i M j) n L
def fswI (n : Nat) (L : List Cel) (i : Nat) : List Cel := rep (fswJ n i) n L
def fsweep (n : Nat) (L : List Cel) : List Cel := rep (fswI n) n L
def cswJ (n i : Nat) (c : List Nat) (j : Nat) : List Nat := rep (fun d k => cntJ n k i d j) n c
def cswI (n : Nat) (c : List Nat) (i : Nat) : List Nat := rep (cswJ n i) n c
def csweep (n : Nat) (c : List Nat) : List Nat := rep (cswI n) n c
theorem cswJ_le (n i c j) : LeC c (cswJ n i c j) := rep_le (fun d k => cntJ_le n k i d j) (Nat.zero_le n)
theorem cswI_le (n c i) : LeC c (cswI n c i) := rep_le (cswJ_le n i) (Nat.zero_le n)
theorem csweep_le (n c) : LeC c (csweep n c) := rep_le (cswI_le n) (Nat.zero_le n)
theorem sim_sw {n b M : Nat} (hb : b * M ≤ 9223372036854775807) : Sim b M (n * n) n (fun M _ => sweep n M) (fun M _ => fsweep n M) (fun c _ => csweep n c) := by
  have hJ : ∀ i, i < n → Sim b M (n * n) n (swJ n i) (fswJ n i) (cswJ n i) := by
    intro i hi L c j hj hL hc hw hM
    have hs : Sim b M (n * n) n (fun M k => closeJ n k i M j) (fun M k => freeJ n k i M j) (fun d k => cntJ n k i d j) := by
      intro L c k hk hL hc hw hM
      obtain ⟨h1, h2⟩ := step_within hL hc hi hj hw hM hb
      exact ⟨h1, by rw [free_length, hL], h2⟩
    exact hs.rep (fun d k => cntJ_le n k i d j) hL hc hw n (Nat.le_refl _) hM
  have hI : Sim b M (n * n) n (swI n) (fswI n) (cswI n) := by
    intro L c i hi hL hc hw hM
    exact (hJ i hi).rep (cswJ_le n i) hL hc hw n (Nat.le_refl _) hM
  intro L c x hx hL hc hw hM
  exact hI.rep (cswI_le n) hL hc hw n (Nat.le_refl _) hM
def cntSw (n : Nat) : List Nat := rep (fun c _ => csweep n c) n (List.replicate (n * n) 1)
theorem cntSw_five : ∀ n, n ≤ 5 → ∀ m, ct (cntSw n) m ≤ 137438953472 := by
  intro n hn
  have : n = 0 ∨ n = 1 ∨ n = 2 ∨ n = 3 ∨ n = 4 ∨ n = 5 := by omega
  rcases this with rfl | rfl | rfl | rfl | rfl | rfl <;> exact ct_le_of (by decide +kernel)
theorem sw_free {n b : Nat} (hn : n ≤ 5) {L : List Cel} (hL : L.length = n * n) (hN : Near b L) (hb : b ≤ 33554432) : sweeps n n (diag n L) = rep (fun M _ => fsweep n M) n (diag n L) := by
  have hw : Within b (List.replicate (n * n) 1) (diag n L) := by
    intro k
    rw [ct_replicate]
    split
    · have := near_diag (n := n) hN k
      unfold diag
      omega
    · rw [cg_out (by rw [diag_length, hL]; omega)]
      simp
  exact ((sim_sw (n := n) (b := b) (M := 137438953472) (by omega)).rep (fun c _ => csweep_le n c) (by rw [diag_length, hL]) (by simp) hw n (Nat.le_refl _) (cntSw_five n hn)).1

/-! ### what the sweeps tell -/
theorem good_swJ {n i j : Nat} (hi : i < n) (hj : j < n) : Good n fun L => fswJ n i L j := Good.rep (f := fun M k => freeJ n k i M j) (fun _ hk => good_J hk hi hj) n (Nat.le_refl _)
theorem good_swI {n i : Nat} (hi : i < n) : Good n fun L => fswI n L i := Good.rep (fun _ hj => good_swJ hi hj) n (Nat.le_refl _)
theorem good_sweep {n : Nat} : Good n (fsweep n) := Good.rep (fun _ hi => good_swI hi) n (Nat.le_refl _)
theorem sweep_tells {n i j k : Nat} (hi : i < n) (hj : j < n) (hk : k < n) {L : List Cel} (hL : L.length = n * n) {u w v : Int} (h1 : Bd n L i k u) (h2 : Bd n L k j w) (hv : u + w ≤ v) : Bd n (fsweep n L) i j v := by
  obtain ⟨M, hM, a, b⟩ := rep_tells (f := fswI n) (fun _ hi => good_swI hi) hi hL
  refine b _ _ _ ?_
  obtain ⟨M', hM', a', b'⟩ := rep_tells (f := fswJ n i) (fun _ hj => good_swJ hi hj) hj hM
  refine b' _ _ _ ?_
  obtain ⟨M'', hM'', a'', b''⟩ := rep_tells (f := fun M k => freeJ n k i M j) (fun _ hk => good_J hk hi hj) hk hM'
  exact b'' _ _ _ (J_tells hi hj hM'' (a'' _ _ _ (a' _ _ _ (a _ _ _ h1))) (a'' _ _ _ (a' _ _ _ (a _ _ _ h2))) hv)
theorem good_sweeps {n : Nat} (m : Nat) : Good n (rep (fun M _ => fsweep n M) m) := Good.rep (f := fun M _ => fsweep n M) (fun _ _ => good_sweep) m (Nat.le_refl _)
theorem sweeps_fw {n : Nat} {L : List Cel} (hL : L.length = n * n) : ∀ m, m ≤ n → ∀ i j v, fwR (Bd n L) m i j v → Bd n (rep (fun M _ => fsweep n M) m L) i j v := by
  intro m
  induction m with
  | zero => intro _ i j v h; exact h
  | succ m ih =>
    intro hm i j v h
    have hl := (good_sweeps m L hL).1
    rcases h with h | ⟨u, w, h1, h2, hs⟩
    · exact (good_sweep _ hl).2.1 _ _ _ (ih (by omega) _ _ _ h)
    · have b1 := ih (by omega) _ _ _ h1
      have b2 := ih (by omega) _ _ _ h2
      exact sweep_tells b1.1 b2.2.1 b1.2.1 hl b1 b2 hs
section
variable {n : Nat} {L : List Cel}
theorem sweeps_ok (hL : L.length = n * n) : okL n (rep (fun M _ => fsweep n M) n (diag n L)) = true ↔ Fine (Bd n (diag n L)) := by
  have hd : (diag n L).length = n * n := by rw [diag_length]; exact hL
  have g := good_sweeps (n := n) n (diag n L) hd
  rw [okL_iff]
  constructor
  · intro h
    refine fine_of (R := Bd n (rep (fun M _ => fsweep n M) n (diag n L))) (bd_over n _) (fun i j v b => sweeps_fw hd n (Nat.le_refl _) i j v b) ?_
    intro i v b
    have := h i b.1
    have := b.2.2.2
    omega
  · intro hf i hi
    have h1 := g.2.1 i i 0 (diag_refl hL i hi)
    exact hf i _ (g.2.2 i i _ ⟨hi, hi, h1.2.2.1, Int.le_refl _⟩)
theorem norm_sweeps (h : Norm L) (m : Nat) : Norm (rep (fun M _ => fsweep n M) m (diag n L)) :=
  norm_rep (fun _ _ h => norm_rep (fun _ _ h => norm_rep (fun _ _ h => norm_rep (fun _ _ h => norm_least h _ _ _) h _) h _) h _) (norm_diag h) m
theorem sweeps_eq (hL : L.length = n * n) (nL : Norm L) (hf : Fine (Bd n (diag n L))) : rep (fun M _ => fsweep n M) n (diag n L) = preFree n L := by
  have hd : (diag n L).length = n * n := by rw [diag_length]; exact hL
  have g := good_sweeps (n := n) n (diag n L) hd
  refine eq_of_bd g.1 (free_length' hL) (norm_sweeps nL n) (norm_free nL) fun i j v => ?_
  rw [free_path hL hf]
  constructor
  · exact g.2.2 i j v
  · intro p
    refine between (R := Bd n (rep (fun M _ => fsweep n M) n (diag n L))) (bd_over n _) (fun i j v b => sweeps_fw hd n (Nat.le_refl _) i j v b) ?_ p
    intro i v b
    exact hf i v (g.2.2 _ _ _ b)
theorem leastL_no' {X : List Cel} {k : Nat} {h : Bool} {m : Int} (e : h = true → (cg X k).has = true ∧ (cg X k).most ≤ m) : leastL X k h m = X := by
  have : leastC (cg X k) h m = cg X k := by
    unfold leastC
    rw [if_neg]
    intro q
    simp only [Bool.and_eq_true, Bool.or_eq_true, Bool.not_eq_true', decide_eq_true_eq] at q
    have := e q.1
    rcases q.2 with q2 | q2
    · rw [this.1] at q2; cases q2
    · omega
  unfold leastL
  rw [this]
  apply List.ext_getElem (by simp)
  intro i h1 h2
  rw [List.getElem_set]
  split
  · rename_i hi; subst hi; simp [cg, List.getD_eq_getElem?_getD, List.getElem?_eq_getElem h2]
  · rfl
/-- A closed one stays as it is. -/
theorem sweep_closed {C : List Cel} (h : Closed n C) (hN : Near 4611686018427387903 C) : sweep n C = C := by
  have hJ : ∀ i j k, i < n → j < n → k < n → closeJ n k i C j = C := by
    intro i j k hi hj hk
    have n1 := hN (i * n + k)
    have n2 := hN (k * n + j)
    unfold closeJ
    refine leastL_no' ?_
    rw [show wrap64 ((cg C (i * n + k)).most + (cg C (k * n + j)).most) = (cg C (i * n + k)).most + (cg C (k * n + j)).most by unfold wrap64; omega]
    intro q
    simp only [Bool.and_eq_true] at q
    have t := h.tri i k j _ _ ⟨hi, hk, q.1, Int.le_refl _⟩ ⟨hk, hj, q.2, Int.le_refl _⟩
    exact ⟨t.2.2.1, t.2.2.2⟩
  unfold sweep
  refine rep_ind (P := fun X => X = C) (n := n) (fun X i hi e => ?_) rfl n (Nat.le_refl _)
  subst e
  unfold swI
  refine rep_ind (P := fun Y => Y = X) (n := n) (fun Y j hj e => ?_) rfl n (Nat.le_refl _)
  subst e
  unfold swJ
  refine rep_ind (P := fun Z => Z = Y) (n := n) (fun Z k hk e => ?_) rfl n (Nat.le_refl _)
  subst e
  exact hJ i j k hi hj hk
/-- What is told stays told. -/
theorem sweep_keeps {X : List Cel} (hX : X.length = n * n) : (sweep n X).length = n * n ∧ ∀ i j v, Bd n X i j v → Bd n (sweep n X) i j v := by
  have step : ∀ (f : List Cel → Nat → List Cel), (∀ Y x, x < n → Y.length = n * n → (f Y x).length = n * n ∧ ∀ i j v, Bd n Y i j v → Bd n (f Y x) i j v) → ∀ Y, Y.length = n * n → (rep f n Y).length = n * n ∧ ∀ i j v, Bd n Y i j v → Bd n (rep f n Y) i j v := by
    intro f hf Y hY
    exact rep_ind (P := fun Z => Z.length = n * n ∧ ∀ i j v, Bd n Y i j v → Bd n Z i j v) (n := n) (fun Z x hx hZ => ⟨(hf Z x hx hZ.1).1, fun i j v q => (hf Z x hx hZ.1).2 i j v (hZ.2 i j v q)⟩) ⟨hY, fun _ _ _ q => q⟩ n (Nat.le_refl _)
  refine step (swI n) (fun Y i hi hY => step (swJ n i) (fun Z j hj hZ => step (fun M k => closeJ n k i M j) (fun M k hk hM => ?_) Z hZ) Y hY) X hX
  exact ⟨by unfold closeJ; rw [leastL_length]; exact hM, fun a b v q => (bd_least hM hi hj _ _ _ _ _).2 (.inl q)⟩
theorem refClose_eq (hn : n ≤ 5) {b : Nat} (hL : L.length = n * n) (nL : Norm L) (hN : Near b L) (hb : b ≤ 33554432) : refClose n L = closeZ n L := by
  have hd : (diag n L).length = n * n := by rw [diag_length]; exact hL
  have e : sweeps n (n + 1) (diag n L) = sweep n (rep (fun M _ => fsweep n M) n (diag n L)) := by
    rw [← sw_free hn hL hN hb]; rfl
  unfold refClose
  rw [e, closeZ_eq hn hL (near_mono hN (by omega))]
  by_cases hf : Fine (Bd n (diag n L))
  · obtain ⟨_, hC, hNC⟩ := closeZ_near hn hL nL hN (by omega) hf
    rw [sweeps_eq hL nL hf, sweep_closed hC (near_mono hNC (by omega))]
  · have h1 : ¬ okL n (rep (fun M _ => fsweep n M) n (diag n L)) = true := fun q => hf ((sweeps_ok hL).1 q)
    rw [if_neg (fun q => hf ((ok_fine hL).1 q)), if_neg]
    intro q
    refine h1 (okL_iff.2 fun i hi => ?_)
    have g := good_sweeps (n := n) n (diag n L) hd
    have hh := g.2.1 i i 0 (diag_refl hL i hi)
    have k := (sweep_keeps g.1).2 i i _ ⟨hi, hi, hh.2.2.1, Int.le_refl _⟩
    have := okL_iff.1 q i hi
    have := k.2.2.2
    omega
end
end Go.Proofs.Rcn
