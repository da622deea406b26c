import Derived.Test.YtcalcnfppnbooaaDoorZwZones
import Derived.Test.YtcalcnfppnbooaaDoorZwZk
import Derived.Test.YtcalcnfppnbooaaDoorZwEv
import Derived.Test.YtcalcnfppnbooaaDoorZwZ3
import Derived.Test.YtcalcnfppnbooaaDoorZwZ5
import Derived.Test.YtcalcnfppnbooaaDoorZwZ4
import Derived.Test.YtcalcnfppnbooaaDoorZwZh
import Derived.Test.YtcalcnfppnbooaaDoorZwCd
import Derived.Test.YtcalcnfppnbooaaDoorZwZ7
import Derived.Test.YtcalcnfppnbooaaDoorZwZ21
import Derived.Test.YtcalcnfppnbooaaDoorZwZ9
import Derived.ProofKit
import Derived.OpenShut
import Derived.Below
import Derived.Carry
import Derived.WideKeyArgs
import Derived.Test.YtcalcnfppnbooaaDoorProg
import Derived.LaidSub
import Derived.LaidLaws
import Derived.LaidHandle
import Derived.MakeChecks
import Derived.Stop.LaidErr
import Derived.Lib.SmallJoins
import Derived.Deep.Slices
import Derived.Test.YtcalcnfppnbooaaDoorZwW
import Derived.Deep.SlicePairs
import Derived.Test.YtcalcnfppnbooaaDoorZwZ0
import Derived.Test.YtcalcnfppnbooaaDoorCards
import Derived.Test.YtcalcnfppnbooaaDoorTie
import Derived.Test.YtcalcnfppnbooaaDoorZwZ22
import Derived.LaidMore
import Derived.Stop.Joined
import Derived.SevenTiedAt
/- Plain law: the reference's closing of a zone (sweeps) comes to the same row as the program's (FLOYD and WARSHALL). No program. -/
set_option linter.unusedVariables false
namespace Go.Proofs.Rcn
open Go.RowKit (wrap64)

def swJ (n i : Nat) (L : List Cel) (j : Nat) : List Cel := rep (fun M k => closeJ n k i M j) n L
def swI (n : Nat) (L : List Cel) (i : Nat) : List Cel := rep (swJ n i) n L
def sweep (n : Nat) (L : List Cel) : List Cel := rep (swI n) n L
def sweeps (n m : Nat) (L : List Cel) : List Cel := rep (fun M _ => sweep n M) m L
def refClose (n : Nat) (L : List Cel) : Option (List Cel) := if okL n (sweeps n (n + 1) (diag n L)) = true then some ((sweeps n (n + 1) (diag n L)).map clipC) else none

/-! ### no sum wrapped -/
def fswJ (n i : Nat) (L : List Cel) (j : Nat) : List Cel := rep (fun M k => freeJ n k i M j) n L
def fswI (n : Nat) (L : List Cel) (i : Nat) : List Cel := rep (fswJ n i) n L
def fsweep (n : Nat) (L : List Cel) : List Cel := rep (fswI n) n L
def cswJ (n i : Nat) (c : List Nat) (j : Nat) : List Nat := rep (fun d k => cntJ n k i d j) n c
def cswI (n : Nat) (c : List Nat) (i : Nat) : List Nat := rep (cswJ n i) n c
def csweep (n : Nat) (c : List Nat) : List Nat := rep (cswI n) n c
theorem cswJ_le (n i c j) : LeC c (cswJ n i c j) := rep_le (fun d k => cntJ_le n k i d j) (Nat.zero_le n)
theorem cswI_le (n c i) : LeC c (cswI n c i) := rep_le (cswJ_le n i) (Nat.zero_le n)
theorem csweep_le (n c) : LeC c (csweep n c) := rep_le (cswI_le n) (Nat.zero_le n)
theorem sim_sw {n b M : Nat} (hb : b * M ≤ 9223372036854775807) : Sim b M (n * n) n (fun M _ => sweep n M) (fun M _ => fsweep n M) (fun c _ => csweep n c) := by
  have hJ : ∀ i, i < n → Sim b M (n * n) n (swJ n i) (fswJ n i) (cswJ n i) := by
    intro i hi L c j hj hL hc hw hM
    have hs : Sim b M (n * n) n (fun M k => closeJ n k i M j) (fun M k => freeJ n k i M j) (fun d k => cntJ n k i d j) := by
      intro L c k hk hL hc hw hM
      obtain ⟨h1, h2⟩ := step_within hL hc hi hj hw hM hb
      exact ⟨h1, by rw [free_length, hL], h2⟩
    exact hs.rep (fun d k => cntJ_le n k i d j) hL hc hw n (Nat.le_refl _) hM
  have hI : Sim b M (n * n) n (swI n) (fswI n) (cswI n) := by
    intro L c i hi hL hc hw hM
    exact (hJ i hi).rep (cswJ_le n i) hL hc hw n (Nat.le_refl _) hM
  intro L c x hx hL hc hw hM
  exact hI.rep (cswI_le n) hL hc hw n (Nat.le_refl _) hM
def cntSw (n : Nat) : List Nat := rep (fun c _ => csweep n c) n (List.replicate (n * n) 1)
theorem cntSw_five : ∀ n, n ≤ 5 → ∀ m, ct (cntSw n) m ≤ 137438953472 := by
  intro n hn
  have : n = 0 ∨ n = 1 ∨ n = 2 ∨ n = 3 ∨ n = 4 ∨ n = 5 := by omega
  rcases this with rfl | rfl | rfl | rfl | rfl | rfl <;> exact ct_le_of (by decide +kernel)
theorem sw_free {n b : Nat} (hn : n ≤ 5) {L : List Cel} (hL : L.length = n * n) (hN : Near b L) (hb : b ≤ 33554432) : sweeps n n (diag n L) = rep (fun M _ => fsweep n M) n (diag n L) := by
  have hw : Within b (List.replicate (n * n) 1) (diag n L) := by
    intro k
    rw [ct_replicate]
    split
    · have := near_diag (n := n) hN k
      unfold diag
      omega
    · rw [cg_out (by rw [diag_length, hL]; omega)]
      simp
  exact ((sim_sw (n := n) (b := b) (M := 137438953472) (by omega)).rep (fun c _ => csweep_le n c) (by rw [diag_length, hL]) (by simp) hw n (Nat.le_refl _) (cntSw_five n hn)).1

/-! ### what the sweeps tell -/
theorem good_swJ {n i j : Nat} (hi : i < n) (hj : j < n) : Good n fun L => fswJ n i L j := Good.rep (f := fun M k => freeJ n k i M j) (fun _ hk => good_J hk hi hj) n (Nat.le_refl _)
theorem good_swI {n i : Nat} (hi : i < n) : Good n fun L => fswI n L i := Good.rep (fun _ hj => good_swJ hi hj) n (Nat.le_refl _)
theorem good_sweep {n : Nat} : Good n (fsweep n) := Good.rep (fun _ hi => good_swI hi) n (Nat.le_refl _)
theorem sweep_tells {n i j k : Nat} (hi : i < n) (hj : j < n) (hk : k < n) {L : List Cel} (hL : L.length = n * n) {u w v : Int} (h1 : Bd n L i k u) (h2 : Bd n L k j w) (hv : u + w ≤ v) : Bd n (fsweep n L) i j v := by
  obtain ⟨M, hM, a, b⟩ := rep_tells (f := fswI n) (fun _ hi => good_swI hi) hi hL
  refine b _ _ _ ?_
  obtain ⟨M', hM', a', b'⟩ := rep_tells (f := fswJ n i) (fun _ hj => good_swJ hi hj) hj hM
  refine b' _ _ _ ?_
  obtain ⟨M'', hM'', a'', b''⟩ := rep_tells (f := fun M k => freeJ n k i M j) (fun _ hk => good_J hk hi hj) hk hM'
  exact b'' _ _ _ (J_tells hi hj hM'' (a'' _ _ _ (a' _ _ _ (a _ _ _ h1))) (a'' _ _ _ (a' _ _ _ (a _ _ _ h2))) hv)
theorem good_sweeps {n : Nat} (m : Nat) : Good n (rep (fun M _ => fsweep n M) m) := Good.rep (f := fun M _ => fsweep n M) (fun _ _ => good_sweep) m (Nat.le_refl _)
theorem sweeps_fw {n : Nat} {L : List Cel} (hL : L.length = n * n) : ∀ m, m ≤ n → ∀ i j v, fwR (Bd n L) m i j v → Bd n (rep (fun M _ => fsweep n M) m L) i j v := by
  intro m
  induction m with
  | zero => intro _ i j v h; exact h
  | succ m ih =>
    intro hm i j v h
    have hl := (good_sweeps m L hL).1
    rcases h with h | ⟨u, w, h1, h2, hs⟩
    · exact (good_sweep _ hl).2.1 _ _ _ (ih (by omega) _ _ _ h)
    · have b1 := ih (by omega) _ _ _ h1
      have b2 := ih (by omega) _ _ _ h2
      exact sweep_tells b1.1 b2.2.1 b1.2.1 hl b1 b2 hs
section
variable {n : Nat} {L : List Cel}
theorem sweeps_ok (hL : L.length = n * n) : okL n (rep (fun M _ => fsweep n M) n (diag n L)) = true ↔ Fine (Bd n (diag n L)) := by
  have hd : (diag n L).length = n * n := by rw [diag_length]; exact hL
  have g := good_sweeps (n := n) n (diag n L) hd
  rw [okL_iff]
  constructor
  · intro h
    refine fine_of (R := Bd n (rep (fun M _ => fsweep n M) n (diag n L))) (bd_over n _) (fun i j v b => sweeps_fw hd n (Nat.le_refl _) i j v b) ?_
    intro i v b
    have := h i b.1
    have := b.2.2.2
    omega
  · intro hf i hi
    have h1 := g.2.1 i i 0 (diag_refl hL i hi)
    exact hf i _ (g.2.2 i i _ ⟨hi, hi, h1.2.2.1, Int.le_refl _⟩)
theorem norm_sweeps (h : Norm L) (m : Nat) : Norm (rep (fun M _ => fsweep n M) m (diag n L)) :=
  norm_rep (fun _ _ h => norm_rep (fun _ _ h => norm_rep (fun _ _ h => norm_rep (fun _ _ h => norm_least h _ _ _) h _) h _) h _) (norm_diag h) m
theorem sweeps_eq (hL : L.length = n * n) (nL : Norm L) (hf : Fine (Bd n (diag n L))) : rep (fun M _ => fsweep n M) n (diag n L) = preFree n L := by
  have hd : (diag n L).length = n * n := by rw [diag_length]; exact hL
  have g := good_sweeps (n := n) n (diag n L) hd
  refine eq_of_bd g.1 (free_length' hL) (norm_sweeps nL n) (norm_free nL) fun i j v => ?_
  rw [free_path hL hf]
  constructor
  · exact g.2.2 i j v
  · intro p
    refine between (R := Bd n (rep (fun M _ => fsweep n M) n (diag n L))) (bd_over n _) (fun i j v b => sweeps_fw hd n (Nat.le_refl _) i j v b) ?_ p
    intro i v b
    exact hf i v (g.2.2 _ _ _ b)
theorem leastL_no' {X : List Cel} {k : Nat} {h : Bool} {m : Int} (e : h = true → (cg X k).has = true ∧ (cg X k).most ≤ m) : leastL X k h m = X := by
  have : leastC (cg X k) h m = cg X k := by
    unfold leastC
    rw [if_neg]
    intro q
    simp only [Bool.and_eq_true, Bool.or_eq_true, Bool.not_eq_true', decide_eq_true_eq] at q
    have := e q.1
    rcases q.2 with q2 | q2
    · rw [this.1] at q2; cases q2
    · omega
  unfold leastL
  rw [this]
  apply List.ext_getElem (by simp)
  intro i h1 h2
  rw [List.getElem_set]
  split
  · rename_i hi; subst hi; simp [cg, List.getD_eq_getElem?_getD, List.getElem?_eq_getElem h2]
  · rfl
/-- A closed one stays as it is. -/
theorem sweep_closed {C : List Cel} (h : Closed n C) (hN : Near 4611686018427387903 C) : sweep n C = C := by
  have hJ : ∀ i j k, i < n → j < n → k < n → closeJ n k i C j = C := by
    intro i j k hi hj hk
    have n1 := hN (i * n + k)
    have n2 := hN (k * n + j)
    unfold closeJ
    refine leastL_no' ?_
    rw [show wrap64 ((cg C (i * n + k)).most + (cg C (k * n + j)).most) = (cg C (i * n + k)).most + (cg C (k * n + j)).most by unfold wrap64; omega]
    intro q
    simp only [Bool.and_eq_true] at q
    have t := h.tri i k j _ _ ⟨hi, hk, q.1, Int.le_refl _⟩ ⟨hk, hj, q.2, Int.le_refl _⟩
    exact ⟨t.2.2.1, t.2.2.2⟩
  unfold sweep
  refine rep_ind (P := fun X => X = C) (n := n) (fun X i hi e => ?_) rfl n (Nat.le_refl _)
  subst e
  unfold swI
  refine rep_ind (P := fun Y => Y = X) (n := n) (fun Y j hj e => ?_) rfl n (Nat.le_refl _)
  subst e
  unfold swJ
  refine rep_ind (P := fun Z => Z = Y) (n := n) (fun Z k hk e => ?_) rfl n (Nat.le_refl _)
  subst e
  exact hJ i j k hi hj hk
/-- What is told stays told. -/
theorem sweep_keeps {X : List Cel} (hX : X.length = n * n) : (sweep n X).length = n * n ∧ ∀ i j v, Bd n X i j v → Bd n (sweep n X) i j v := by
  have step : ∀ (f : List Cel → Nat → List Cel), (∀ Y x, x < n → Y.length = n * n → (f Y x).length = n * n ∧ ∀ i j v, Bd n Y i j v → Bd n (f Y x) i j v) → ∀ Y, Y.length = n * n → (rep f n Y).length = n * n ∧ ∀ i j v, Bd n Y i j v → Bd n (rep f n Y) i j v := by
    intro f hf Y hY
    exact rep_ind (P := fun Z => Z.length = n * n ∧ ∀ i j v, Bd n Y i j v → Bd n Z i j v) (n := n) (fun Z x hx hZ => ⟨(hf Z x hx hZ.1).1, fun i j v q => (hf Z x hx hZ.1).2 i j v (hZ.2 i j v q)⟩) ⟨hY, fun _ _ _ q => q⟩ n (Nat.le_refl _)
  refine step (swI n) (fun Y i hi hY => step (swJ n i) (fun Z j hj hZ => step (fun M k => closeJ n k i M j) (fun M k hk hM => ?_) Z hZ) Y hY) X hX
  exact ⟨by unfold closeJ; rw [leastL_length]; exact hM, fun a b v q => (bd_least hM hi hj _ _ _ _ _).2 (.inl q)⟩
theorem refClose_eq (hn : n ≤ 5) {b : Nat} (hL : L.length = n * n) (nL : Norm L) (hN : Near b L) (hb : b ≤ 33554432) : refClose n L = closeZ n L := by
  have hd : (diag n L).length = n * n := by rw [diag_length]; exact hL
  have e : sweeps n (n + 1) (diag n L) = sweep n (rep (fun M _ => fsweep n M) n (diag n L)) := by
    rw [← sw_free hn hL hN hb]; rfl
  unfold refClose
  rw [e, closeZ_eq hn hL (near_mono hN (by omega))]
  by_cases hf : Fine (Bd n (diag n L))
  · obtain ⟨_, hC, hNC⟩ := closeZ_near hn hL nL hN (by omega) hf
    rw [sweeps_eq hL nL hf, sweep_closed hC (near_mono hNC (by omega))]
  · have h1 : ¬ okL n (rep (fun M _ => fsweep n M) n (diag n L)) = true := fun q => hf ((sweeps_ok hL).1 q)
    rw [if_neg (fun q => hf ((ok_fine hL).1 q)), if_neg]
    intro q
    refine h1 (okL_iff.2 fun i hi => ?_)
    have g := good_sweeps (n := n) n (diag n L) hd
    have hh := g.2.1 i i 0 (diag_refl hL i hi)
    have k := (sweep_keeps g.1).2 i i _ ⟨hi, hi, hh.2.2.1, Int.le_refl _⟩
    have := okL_iff.1 q i hi
    have := k.2.2.2
    omega
end
end Go.Proofs.Rcn
/- Plain law: what the printed functions of zones tell that the laws share. -/
set_option linter.unusedVariables false
set_option linter.unusedSimpArgs false
namespace Go.Proofs.Rcp
open Go.RowKit Go.Proofs.Rcg Go.Proofs.Rcn Go.Proofs.YtcalcnfppnbooaaDoor.Z Go.Proofs.YtcalcnfppnbooaaDoorW.PrintWords Go.Proofs.YtcalcnfppnbooaaDoorW.PrintMore

abbrev RC := S67
def rel (x : RC) : Cel := ⟨x.f0, x.f1⟩
def rce (c : Cel) : RC := ⟨c.has, c.most⟩
def rels (l : List RC) : List Cel := l.map rel
def rces (L : List Cel) : List RC := L.map rce
theorem rels_rces (L : List Cel) : rels (rces L) = L := by simp [rels, rces, Function.comp_def, rel, rce]
theorem rces_rels (l : List RC) : rces (rels l) = l := by simp [rels, rces, Function.comp_def, rel, rce]
theorem rels_length (l : List RC) : (rels l).length = l.length := by simp [rels]
theorem rces_length (L : List Cel) : (rces L).length = L.length := by simp [rces]
theorem w64 {n : Int} (h : -9223372036854775808 ≤ n) (h' : n ≤ 9223372036854775807) : wrap64 n = n := by unfold wrap64; omega
theorem rdR_get {l : List RC} {i : Nat} (h : i < l.length) : rd_T67 l (i : Int) = l[i] := by simp [rd_T67, List.getD_eq_getElem?_getD, List.getElem?_eq_getElem h]
theorem rdZ_get {l : List ZC} {i : Nat} (h : i < l.length) : rd_T120 l (i : Int) = l[i] := by simp [rd_T120, List.getD_eq_getElem?_getD, List.getElem?_eq_getElem h]
theorem rels_inj {a b : List RC} : rels a = rels b ↔ a = b := ⟨fun h => by rw [← rces_rels a, h, rces_rels], fun h => by rw [h]⟩
theorem ev_zoneOf {N : Int} {l : List RC} (hl : l.length ≤ 1000) : Ev (fun k => L2_zoneOf.f k N l) (N, zces (rels l)) := by
  have key : ∀ (n i : Nat), i + n = l.length → Ev (fun k => L2_zoneOf.l0 k (i : Int) N l N (zces (rels (l.take i)))) (N, zces (rels l)) := by
    intro n
    induction n with
    | zero =>
      intro i hin
      rw [List.take_of_length_le (by omega)]
      refine Ev.step (h := fun _ => some (N, zces (rels l))) (fun k => ?_) .some
      simp only [L2_zoneOf.l0]
      rw [if_neg (by omega)]
    | succ n ih =>
      intro i hin
      have hlt : i < l.length := by omega
      refine Ev.step (fun k => ?_) (ih (i + 1) (by omega))
      simp only [L2_zoneOf.l0]
      rw [if_pos (by omega), if_pos (by omega), if_pos (by rw [zces_length, rels_length, List.length_take]; omega), w64 (n := (i : Int) + 1) (by omega) (by omega), rdR_get hlt, List.take_succ_eq_append_getElem hlt]
      simp only [rels, zces, List.map_append, List.map_cons, List.map_nil]
      rfl
  have := key l.length 0 (by omega)
  simpa [rels, zces, L2_zoneOf.f] using this
theorem ev_zoneBack {N : Int} {l : List ZC} (hl : l.length ≤ 1000) : Ev (fun k => L2_zoneBack.f k N l) (N, rces (cels l)) := by
  have key : ∀ (n i : Nat), i + n = l.length → Ev (fun k => L2_zoneBack.l0 k (i : Int) N l N (rces (cels (l.take i)))) (N, rces (cels l)) := by
    intro n
    induction n with
    | zero =>
      intro i hin
      rw [List.take_of_length_le (by omega)]
      refine Ev.step (h := fun _ => some (N, rces (cels l))) (fun k => ?_) .some
      simp only [L2_zoneBack.l0]
      rw [if_neg (by omega)]
    | succ n ih =>
      intro i hin
      have hlt : i < l.length := by omega
      refine Ev.step (fun k => ?_) (ih (i + 1) (by omega))
      simp only [L2_zoneBack.l0]
      rw [if_pos (by omega), if_pos (by omega), if_pos (by rw [rces_length, cels_length, List.length_take]; omega), w64 (n := (i : Int) + 1) (by omega) (by omega), rdZ_get hlt, List.take_succ_eq_append_getElem hlt]
      simp only [cels, rces, List.map_append, List.map_cons, List.map_nil]
      rfl
  have := key l.length 0 (by omega)
  simpa [cels, rces, L2_zoneBack.f] using this
theorem ev_Same {l m : List RC} (hl : l.length ≤ 1000) : Ev (fun k => R2_SameCells.f k l m) (decide (rels l = rels m)) := by
  unfold R2_SameCells.f
  refine .ite (fun he => ?_) (fun he => ?_)
  · have hlm : l.length = m.length := by omega
    have key : ∀ (n i : Nat), i + n = l.length → (∀ j (h : j < l.length) (h' : j < m.length), j < i → l[j] = m[j]) → Ev (fun k => R2_SameCells.l0 k l m (i : Int)) (decide (rels l = rels m)) := by
      intro n
      induction n with
      | zero =>
        intro i hin hp
        rw [decide_eq_true (rels_inj.2 (List.ext_getElem hlm fun j h h' => hp j h h' (by omega)))]
        refine Ev.step (h := fun _ => some true) (fun k => ?_) .some
        simp only [R2_SameCells.l0]
        rw [if_neg (by omega)]
      | succ n ih =>
        intro i hin hp
        have hlt : i < l.length := by omega
        have hlt' : i < m.length := by omega
        refine Ev.step (h := fun k => if (!((l[i].f0) == (m[i].f0)) || !((l[i].f1) == (m[i].f1))) = true then some false else R2_SameCells.l0 k l m ((i + 1 : Nat) : Int)) (fun k => ?_) (.ite (fun hc => ?_) (fun hc => ?_))
        · simp only [R2_SameCells.l0]
          rw [if_pos (by omega), if_pos (by omega), if_pos (by omega), w64 (n := (i : Int) + 1) (by omega) (by omega), rdR_get hlt, rdR_get hlt']
          rfl
        · rw [decide_eq_false]
          · exact .some
          · intro q
            obtain rfl := rels_inj.1 q
            simp at hc
        · refine ih (i + 1) (by omega) fun j h h' hj => ?_
          rcases Nat.lt_or_ge j i with hj' | hj'
          · exact hp j h h' hj'
          · obtain rfl : j = i := by omega
            simp only [Bool.or_eq_true, Bool.not_eq_true', beq_eq_false_iff_ne, ne_eq, not_or, Classical.not_not] at hc
            rcases hx : l[j] with ⟨a, b⟩
            rcases hy : m[j] with ⟨a', b'⟩
            rw [hx, hy] at hc
            simp only at hc
            rw [hc.1, hc.2]
    exact key l.length 0 (by omega) fun j h h' hj => absurd hj (by omega)
  · rw [decide_eq_false (fun q => he (by rw [rels_inj.1 q]))]
    exact .some
theorem ev_isZone {N M : Int} {l : List ZC} {m : List RC} (hl : l.length ≤ 1000) : Ev (fun k => L2_isZone.f k N l M m) (decide (N = M ∧ cels l = rels m)) := by
  unfold L2_isZone.f
  refine .ite (fun he => ?_) (fun he => ?_)
  · refine .bind (ev_zoneBack hl) (.bind (ev_Same (by rw [rces_length, cels_length]; exact hl)) ?_)
    rw [rels_rces, show decide (N = M ∧ cels l = rels m) = decide (cels l = rels m) from decide_eq_decide.2 ⟨fun q => q.2, fun q => ⟨he, q⟩⟩]
    exact .some
  · rw [decide_eq_false (fun q => he q.1)]
    exact .some
theorem ev_free : Ev (fun k => L2_free.f k) true := Ev.mono (k := 30) (fun k r h => L2_free.mono k r h) (by kernel_rfl)
def nearB (L : List Cel) : Bool := decide (L.length ≤ 100) && L.all fun c => decide (c.most ≤ 1048576 ∧ -1048576 ≤ c.most)
theorem far_n {n : Int} (hn : 0 ≤ n ∧ n ≤ 1152921504606846976) (a : Int) : R2_Far.f a n = some (decide (a > n ∨ a < -n)) := by
  unfold R2_Far.f
  rw [w64 (by omega) (by omega)]
  split
  · rename_i h; rw [decide_eq_true (.inl h)]
  · rename_i h
    congr 1
    exact decide_eq_decide.2 ⟨.inr, fun q => q.resolve_left h⟩
theorem ev_near (l : List RC) : Ev (fun k => L2_near.f k l) (nearB (rels l)) := by
  unfold L2_near.f nearB
  refine .ite (fun h => ?_) (fun h => ?_)
  · rw [decide_eq_true (by rw [rels_length]; omega), Bool.true_and]
    have key : ∀ (n i : Nat), i + n = l.length → Ev (fun k => R2_Near.l0 k l 1048576 (i : Int)) ((rels (l.drop i)).all fun c => decide (c.most ≤ 1048576 ∧ -1048576 ≤ c.most)) := by
      intro n
      induction n with
      | zero =>
        intro i hin
        rw [List.drop_eq_nil_of_le (by omega)]
        refine Ev.step (h := fun _ => some true) (fun k => ?_) .some
        simp only [R2_Near.l0]
        rw [if_neg (by omega)]
      | succ n ih =>
        intro i hin
        have hlt : i < l.length := by omega
        rw [List.drop_eq_getElem_cons hlt]
        refine Ev.step (h := fun k => (R2_Far.f l[i].f1 1048576).bind fun t144 => (if t144 = true then (some false) else (R2_Near.l0 k l 1048576 ((i + 1 : Nat) : Int)))) (fun k => ?_) ?_
        · simp only [R2_Near.l0]
          rw [if_pos (by omega), if_pos (by omega), w64 (n := (i : Int) + 1) (by omega) (by omega), rdR_get hlt]
          rfl
        · rw [far_n (by omega)]
          refine .bind .some (.ite (fun hc => ?_) (fun hc => ?_))
          · have hc' := of_decide_eq_true hc
            simp only [rels, List.map_cons, List.all_cons, rel]
            rw [decide_eq_false (by omega), Bool.false_and]
            exact .some
          · have hc' : ¬ (l[i].f1 > 1048576 ∨ l[i].f1 < -1048576) := fun q => hc (decide_eq_true q)
            have := ih (i + 1) (by omega)
            simp only [rels, List.map_cons, List.all_cons, rel] at this ⊢
            rw [decide_eq_true (by omega), Bool.true_and]
            exact this
    exact .bind (key l.length 0 (by omega)) .some
  · rw [decide_eq_false (by rw [rels_length]; omega), Bool.false_and]
    exact .some
theorem nearB_near {L : List Cel} (h : nearB L = true) : L.length ≤ 100 ∧ Near 1048576 L := by
  unfold nearB at h
  simp only [Bool.and_eq_true, decide_eq_true_eq, List.all_eq_true] at h
  refine ⟨h.1, fun k => ?_⟩
  by_cases hk : k < L.length
  · have := h.2 L[k] (List.getElem_mem hk)
    rw [show cg L k = L[k] by simp [cg, List.getD_eq_getElem?_getD, List.getElem?_eq_getElem hk]]
    omega
  · rw [cg_out (by omega)]
    simp
theorem norm_of {N : Int} {L : List Cel} (h : zErr N L = none) : Norm L := by
  obtain ⟨n, hn, h1, h5, hl, hb, _⟩ := zErr_none h
  intro k hk
  by_cases hlt : k < L.length
  · have := hb k hlt
    unfold bad at this
    rw [hk] at this
    simpa using this
  · rw [cg_out (by omega)]
theorem sq64 {N : Int} {n : Nat} (hn : N + 1 = n) (h5 : n ≤ 16) : wrap64 ((wrap64 (N + 1)) * (wrap64 (N + 1))) = ((n * n : Nat) : Int) := by
  have h : n * n ≤ 16 * 16 := Nat.mul_le_mul h5 h5
  rw [w64 (n := N + 1) (by omega) (by omega), hn, show ((n : Int) * (n : Int)) = ((n * n : Nat) : Int) by push_cast; rfl, w64 (by omega) (by omega)]
theorem up64 {p : Nat} (hp : p ≤ 1000) : wrap64 (((p : Nat) : Int) + 1) = ((p + 1 : Nat) : Int) := by
  rw [w64 (by omega) (by omega)]; push_cast; rfl

theorem ix64 {n p q : Nat} (h5 : n ≤ 16) (hp : p < n) (hq : q < n) : wrap64 ((wrap64 (((p : Nat) : Int) * ((n : Nat) : Int))) + ((q : Nat) : Int)) = ((p * n + q : Nat) : Int) := by
  have h : p * n ≤ 16 * 16 := Nat.mul_le_mul (by omega) h5
  rw [show (((p : Nat) : Int) * (n : Int)) = ((p * n : Nat) : Int) by push_cast; rfl, w64 (n := ((p * n : Nat) : Int)) (by omega) (by omega), w64 (by omega) (by omega)]
  push_cast
  rfl
end Go.Proofs.Rcp
/- Plain law: points of zones: what is done with a zone keeps them; widened over and over. -/
set_option linter.unusedVariables false
namespace Go.Proofs.Rcn

/-- A step on each place by itself. -/
theorem cg_rep_set (f : Cel → Nat → Cel) (L : List Cel) : ∀ m, m ≤ L.length → ∀ j, cg (rep (fun X i => X.set i (f (cg X i) i)) m L) j = if j < m then f (cg L j) j else cg L j := by
  intro m
  induction m with
  | zero => intro _ j; simp [rep]
  | succ m ih =>
    intro hm j
    have hl : (rep (fun X i => X.set i (f (cg X i) i)) m L).length = L.length := rep_length (f := fun X i => X.set i (f (cg X i) i)) (fun X k => by simp) m L
    rw [rep_succ, cg_set]
    by_cases e : m = j
    · subst e
      rw [if_pos ⟨rfl, by omega⟩, if_pos (by omega), ih (by omega), if_neg (by omega)]
    · rw [if_neg (fun h => e h.1), ih (by omega)]
      by_cases hj : j < m
      · rw [if_pos hj, if_pos (by omega)]
      · rw [if_neg hj, if_neg (by omega)]

theorem fine_some {n : Nat} (hn : n ≤ 5) {L : List Cel} (hL : L.length = n * n) (hN : Near 1099511627776 L) (hf : Fine (Bd n (diag n L))) : closeZ n L ≠ none := fun h => (closeZ_none hn hL hN).1 h hf
theorem some_fine {n : Nat} (hn : n ≤ 5) {L : List Cel} (hL : L.length = n * n) (hN : Near 1099511627776 L) (h : closeZ n L ≠ none) : Fine (Bd n (diag n L)) := Classical.byContradiction fun q => h ((closeZ_none hn hL hN).2 q)
/-- Fewer bounds: still a point. -/
theorem diag_less {n : Nat} {L M : List Cel} (hL : L.length = n * n) (hM : M.length = n * n) (h : ∀ i j v, Bd n M i j v → Path (Bd n (diag n L)) i j v) (hf : Fine (Bd n (diag n L))) : Fine (Bd n (diag n M)) := by
  refine Fine.mono (C := Path (Bd n (diag n L))) (fun i j v q => ?_) (fine_path hf)
  rcases (bd_diag hM i j v).1 q with q | ⟨rfl, hi, hv⟩
  · exact h i j v q
  · exact .one ((bd_diag hL i i v).2 (.inr ⟨rfl, hi, hv⟩))
/-- A closed one has a point. -/
theorem closed_some {n : Nat} (hn : n ≤ 5) {L C : List Cel} (hL : L.length = n * n) (hN : Near 1099511627776 L) (h : closeZ n L = some C) : C.length = n * n ∧ Near 1099511627776 C ∧ Fine (Bd n (diag n C)) ∧ closeZ n C ≠ none := by
  have hf := some_fine hn hL hN (by rw [h]; simp)
  rw [closeZ_eq hn hL hN, if_pos ((ok_fine hL).2 hf)] at h
  have hC := Option.some.inj h
  have hl : C.length = n * n := by rw [← hC, List.length_map, free_length' hL]
  have hnear : Near 1099511627776 C := by rw [← hC]; exact near_clip _
  have hfC : Fine (Bd n (diag n C)) := diag_less hL hl (fun i j v q => by
    rw [← hC] at q
    exact (free_path hL hf i j v).1 (bd_clip q)) hf
  exact ⟨hl, hnear, hfC, fine_some hn hl hnear hfC⟩
end Go.Proofs.Rcn

namespace Go.Proofs.Rcp
open Go.RowKit Go.Proofs.Rcg Go.Proofs.Rcn

theorem near_of {N : Int} {L : List Cel} (h : zErr N L = none) : Near 1099511627776 L := by
  obtain ⟨n, hn, h1, h5, hl, _, hf⟩ := zErr_none h
  intro k
  by_cases hk : k < L.length
  · have := hf k hk
    unfold zfar at this
    have := of_decide_eq_false this
    omega
  · rw [cg_out (by omega)]
    simp
end Go.Proofs.Rcp
/- Plain law: the reference's functions of zones, as they are printed: what they come to. -/
set_option linter.unusedVariables false
set_option linter.unusedSimpArgs false
namespace Go.Proofs.Rcp
open Go.RowKit Go.Proofs.Rcg Go.Proofs.Rcn Go.Proofs.YtcalcnfppnbooaaDoor.Z Go.Proofs.YtcalcnfppnbooaaDoorW.PrintWords Go.Proofs.YtcalcnfppnbooaaDoorW.PrintMore

theorem rdR_cg {L : List Cel} (i : Nat) : rd_T67 (rces L) (i : Int) = rce (cg L i) := by
  by_cases h : i < L.length
  · rw [rdR_get (by rw [rces_length]; exact h)]
    simp [rces, cg, List.getD_eq_getElem?_getD, List.getElem?_eq_getElem h]
  · simp only [rd_T67, List.getD_eq_getElem?_getD, Int.toNat_natCast, cg]
    rw [List.getElem?_eq_none (by rw [rces_length]; omega), List.getElem?_eq_none (by omega)]
    rfl
theorem rces_set (L : List Cel) (k : Nat) (c : Cel) : (rces L).set k (rce c) = rces (L.set k c) := by simp [rces, List.map_set]
/-- An error's number, or 0. -/
abbrev eN (o : Option Int) : Int := o.getD 0
theorem far_max (a : Int) : R2_Far.f a 1099511627776 = some (zfar a) := far_n (by omega) a
/-- The error of rows of bounds. -/
def cErr (N : Int) (L : List Cel) (want : Int) : Option Int :=
  if N < 0 ∨ N > 4 then some 2 else if (L.length : Int) ≠ want then some 3 else if L.any bad = true then some 3 else if (L.any fun c => zfar c.most) = true then some 2 else none
theorem ev_cells {N want : Int} {l : List RC} (hl : l.length ≤ 1000) : Ev (fun k => R2_cellsError.f k N l want) (eN (cErr N (rels l) want)) := by
  have key : ∀ (n i : Nat) (g : Bool), i + n = l.length → Ev (fun k => R2_cellsError.l0 k l g (i : Int)) (if (rels (l.drop i)).any bad = true then 3 else if (g || (rels (l.drop i)).any fun c => zfar c.most) = true then 2 else 0) := by
    intro n
    induction n with
    | zero =>
      intro i g hin
      rw [List.drop_eq_nil_of_le (by omega)]
      refine Ev.step (h := fun _ => some (if g = true then 2 else 0)) (fun k => ?_) (by cases g <;> exact .some)
      simp only [R2_cellsError.l0]
      rw [if_neg (by omega)]
      cases g <;> rfl
    | succ n ih =>
      intro i g hin
      have hlt : i < l.length := by omega
      have nx := ih (i + 1)
      rw [List.drop_eq_getElem_cons hlt]
      refine Ev.step (fun k => by simp only [R2_cellsError.l0, rdR_get hlt, up64 (p := i) (by omega), far_max]; rfl) (.pos (by omega) (.pos (by omega) ?_))
      simp only [rels, List.map_cons, List.any_cons] at nx ⊢
      generalize l[i] = x at nx ⊢
      obtain ⟨xh, xm⟩ := x
      show Ev (fun k => if xh = true then (some (zfar xm)).bind fun t => if g = true then R2_cellsError.l0 k l true ((i + 1 : Nat) : Int) else R2_cellsError.l0 k l t ((i + 1 : Nat) : Int) else if xm = 0 then (some (zfar xm)).bind fun t => if g = true then R2_cellsError.l0 k l true ((i + 1 : Nat) : Int) else R2_cellsError.l0 k l t ((i + 1 : Nat) : Int) else some 3) _
      have both : ∀ B : Bool, B = (bad ⟨xh, xm⟩) → B = false → Ev (fun k => (some (zfar xm)).bind fun t => if g = true then R2_cellsError.l0 k l true ((i + 1 : Nat) : Int) else R2_cellsError.l0 k l t ((i + 1 : Nat) : Int))
          (if (bad (rel ⟨xh, xm⟩) || (List.map rel (List.drop (i + 1) l)).any bad) = true then 3 else if (g || (zfar (rel ⟨xh, xm⟩).most || (List.map rel (List.drop (i + 1) l)).any fun c => zfar c.most)) = true then 2 else 0) := by
        intro B e hB
        rw [show bad (rel ⟨xh, xm⟩) = false by show bad ⟨xh, xm⟩ = false; rw [← e, hB], Bool.false_or, show zfar (rel ⟨xh, xm⟩).most = zfar xm from rfl]
        refine .bind .some (.ite (fun hg => ?_) (fun hg => ?_))
        · have := nx true (by omega)
          subst hg
          exact this
        · have := nx (zfar xm) (by omega)
          have hg' : g = false := by simpa using hg
          subst hg'
          rw [Bool.false_or]
          exact this
      refine .ite (fun hx => ?_) (fun hx => .ite (fun h0 => ?_) (fun h0 => ?_))
      · subst hx; exact both false rfl rfl
      · have hx' : xh = false := by simpa using hx
        subst hx' h0
        exact both false rfl rfl
      · have hx' : xh = false := by simpa using hx
        subst hx'
        rw [show bad (rel ⟨false, xm⟩) = true by show bad ⟨false, xm⟩ = true; simp [bad, h0], Bool.true_or, if_pos rfl]
        exact .some
  unfold R2_cellsError.f cErr
  refine .ite (fun h => ?_) (fun h => ?_)
  · rw [if_pos (.inl h)]
    exact Ev.step (h := fun _ => some 2) (fun k => by simp only [R2_cellsError.j0, if_true]) .some
  · by_cases h4 : N > 4
    · rw [decide_eq_true h4, if_pos (.inr h4)]
      exact Ev.step (h := fun _ => some 2) (fun k => by simp only [R2_cellsError.j0, if_true]) .some
    · rw [decide_eq_false h4, if_neg (by omega)]
      refine Ev.step (fun k => by simp only [R2_cellsError.j0, Bool.false_eq_true, if_false]; rfl) (.ite (fun hw => ?_) (fun hw => ?_))
      · rw [if_neg (by rw [rels_length]; exact fun q => q hw)]
        have := key l.length 0 false (by omega)
        simp only [List.drop_zero, Bool.false_or] at this
        have e : eN (if (rels l).any bad = true then some 3 else if ((rels l).any fun c => zfar c.most) = true then some 2 else none) = if (rels l).any bad = true then 3 else if ((rels l).any fun c => zfar c.most) = true then 2 else 0 := by
          split
          · rfl
          · split <;> rfl
        rw [e]
        exact this
      · rw [if_pos (by rw [rels_length]; exact hw)]
        exact .some
theorem zErr_cErr (N : Int) (L : List Cel) : zErr N L = cErr N L ((N + 1) * (N + 1)) := rfl
theorem cErr_out {N : Int} {L : List Cel} (h : N < 0 ∨ N > 4) (a b : Int) : cErr N L a = cErr N L b := by unfold cErr; rw [if_pos h, if_pos h]
theorem ev_ZoneError {N : Int} {l : List RC} (hl : l.length ≤ 1000) : Ev (fun k => R2_ZoneError.f k N l) (eN (zErr N (rels l))) := by
  unfold R2_ZoneError.f
  refine .bind (x := eN (zErr N (rels l))) ?_ .some
  rw [zErr_cErr]
  by_cases h : N < 0 ∨ N > 4
  · rw [cErr_out h _ (wrap64 ((wrap64 (N + 1)) * (wrap64 (N + 1))))]
    exact ev_cells hl
  · obtain ⟨n, hn⟩ : ∃ n : Nat, N + 1 = n := ⟨(N + 1).toNat, by omega⟩
    have e := sq64 hn (by omega)
    have e2 : (N + 1) * (N + 1) = wrap64 ((wrap64 (N + 1)) * (wrap64 (N + 1))) := by rw [e, hn]; push_cast; rfl
    rw [e2]
    exact ev_cells hl
theorem lower_val {L : List Cel} {i : Nat} (hi : i < L.length) (m : Int) : ∃ b, R2_lower.f (rces L) (i : Int) m = some (b, rces (leastL L i true m)) := by
  unfold R2_lower.f
  rw [if_pos (by omega), if_pos (by rw [rces_length]; omega), rdR_cg]
  unfold leastL leastC
  have hs := set_self L i
  generalize cg L i = c at hs ⊢
  obtain ⟨h, x⟩ := c
  cases h
  · exact ⟨true, by simp [rce, rces, List.map_set]⟩
  · by_cases hm : x ≤ m
    · refine ⟨false, ?_⟩
      rw [if_pos (show (rce ⟨true, x⟩).f0 = true from rfl), if_pos (show (rce ⟨true, x⟩).f1 ≤ m from hm), if_neg (by simp; omega), hs]
    · refine ⟨true, ?_⟩
      rw [if_pos (show (rce ⟨true, x⟩).f0 = true from rfl), if_neg (show ¬ (rce ⟨true, x⟩).f1 ≤ m from hm), if_pos (by simp; omega)]
      simp [rce, rces, List.map_set]
theorem ev_clip (L : List Cel) (hl : L.length ≤ 1000) : Ev (fun k => R2_clip.f k (rces L)) (rces (L.map clipC)) := by
  have key : ∀ (n i : Nat), i + n = L.length → Ev (fun k => R2_clip.l0 k (rces (rep clipAt i L)) (i : Int)) (rces (L.map clipC)) := by
    intro n
    induction n with
    | zero =>
      intro i hin
      obtain rfl : i = L.length := by omega
      rw [rep_clip_all]
      refine Ev.step (h := fun _ => some (rces (L.map clipC))) (fun k => ?_) .some
      simp only [R2_clip.l0]
      rw [if_neg (by rw [rces_length, List.length_map]; omega)]
    | succ n ih =>
      intro i hin
      have hlt : i < L.length := by omega
      have hll : (rep clipAt i L).length = L.length := rep_length clipAt_length i L
      have nx := ih (i + 1) (by omega)
      have hc := rep_clip_at L hlt
      rw [show rep clipAt (i + 1) L = clipAt (rep clipAt i L) i from rfl, clipAt] at nx
      generalize rep clipAt i L = X at nx hll hc ⊢
      have hs := set_self X i
      generalize hcc : cg X i = c at nx hs ⊢
      obtain ⟨h, m⟩ := c
      refine Ev.step (fun k => by simp only [R2_clip.l0, rdR_cg, hcc, up64 (p := i) (by omega), Int.toNat_natCast]; rfl) (.pos (by rw [rces_length]; omega) (.pos (by omega) ?_))
      unfold clipC at nx
      refine .ite (fun h1 => ?_) (fun h1 => .ite (fun h2 => ?_) (fun h2 => ?_))
      · rw [if_pos (show m > 1099511627776 from h1)] at nx
        refine .bind .some ?_
        have e : (rces X).set i (⟨false, 0⟩ : RC) = rces (X.set i ⟨false, 0⟩) := rces_set X i ⟨false, 0⟩
        rw [e]
        have e2 : rd_T67 (rces (X.set i ⟨false, 0⟩)) (i : Int) = ⟨false, 0⟩ := by
          rw [rdR_cg, cg_set, if_pos ⟨rfl, by omega⟩]; rfl
        simp only [e2]
        exact .neg (by decide) nx
      · rw [if_neg (show ¬ m > 1099511627776 from h1), if_pos (show m < -1099511627776 from h2)] at nx
        have e : (rces X).set i (⟨h, -1099511627776⟩ : RC) = rces (X.set i ⟨h, -1099511627776⟩) := rces_set X i ⟨h, -1099511627776⟩
        show Ev (fun k => R2_clip.l0 k ((rces X).set i (⟨h, -1099511627776⟩ : RC)) ((i + 1 : Nat) : Int)) _
        rw [e]
        exact nx
      · rw [if_neg (show ¬ m > 1099511627776 from h1), if_neg (show ¬ m < -1099511627776 from h2), hs] at nx
        exact nx
  exact key L.length 0 (by omega)
section
variable {N : Int} {n : Nat} {r : Int × List RC × Bool}
theorem rep_len_closeJ {n i j : Nat} {X : List Cel} (q : Nat) : (rep (fun M k => closeJ n k i M j) q X).length = X.length := rep_length (f := fun M k => closeJ n k i M j) (fun L k => leastL_length ..) q X
theorem swJ_length (n i X j) : (swJ n i X j).length = X.length := rep_len_closeJ n
theorem swI_length (n X i) : (swI n X i).length = X.length := rep_length (swJ_length n i) n X
theorem sweep_length (n X) : (sweep n X).length = X.length := rep_length (swI_length n) n X
theorem closed_l4 (h5 : n ≤ 16) {t i j : Nat} (hi : i < n) (hj : j < n) {X : List Cel} (hX : X.length = n * n) (hnext : Ev (fun k => R2_ClosedZone.l3 k (n : Int) (t : Int) (i : Int) ((j + 1 : Nat) : Int) N (rces (swJ n i X j))) r) :
    ∀ m q : Nat, q + m = n → Ev (fun k => R2_ClosedZone.l4 k (n : Int) (t : Int) (i : Int) (j : Int) (q : Int) N (rces (rep (fun M k => closeJ n k i M j) q X))) r := by
  intro m
  induction m with
  | zero =>
    intro q hq
    obtain rfl : q = n := by omega
    exact Ev.step (fun k => by simp only [R2_ClosedZone.l4, up64 (p := j) (by omega)]; rfl) (.neg (by omega) hnext)
  | succ m ih =>
    intro q hq
    have hq' : q < n := by omega
    have i1 := idx_lt hi hq'
    have i2 := idx_lt hq' hj
    have i3 := idx_lt hi hj
    have nx := ih (q + 1) (by omega)
    rw [rep_succ] at nx
    have hM : (rep (fun M k => closeJ n k i M j) q X).length = n * n := by rw [rep_len_closeJ]; exact hX
    generalize rep (fun M k => closeJ n k i M j) q X = M at nx hM ⊢
    have stay : ((cg M (i * n + q)).has && (cg M (q * n + j)).has) = false → Ev (fun k => R2_ClosedZone.l4 k (n : Int) (t : Int) (i : Int) (j : Int) ((q + 1 : Nat) : Int) N (rces M)) r := by
      intro e
      rwa [show closeJ n q i M j = M by unfold closeJ; rw [e]; exact leastL_no' (fun q => by cases q)] at nx
    refine Ev.step (fun k => by simp only [R2_ClosedZone.l4, ix64 (p := i) (q := q) h5 hi hq', ix64 (p := q) (q := j) h5 hq' hj, ix64 (p := i) (q := j) h5 hi hj, rdR_cg, up64 (p := q) (by omega)]; rfl)
      (.pos (by omega) (.pos (by omega) (.pos (by rw [rces_length, hM]; omega) (.pos (by omega) (.pos (by rw [rces_length, hM]; omega) (.ite (fun ha => .ite (fun hb => ?_) (fun hb => ?_)) (fun ha => ?_)))))))
    · obtain ⟨b, e⟩ := lower_val (L := M) (i := i * n + j) (by rw [hM]; exact i3) (wrap64 ((cg M (i * n + q)).most + (cg M (q * n + j)).most))
      have e' : R2_lower.f (rces M) ((i * n + j : Nat) : Int) (wrap64 ((rce (cg M (i * n + q))).f1 + (rce (cg M (q * n + j))).f1)) = some (b, rces (closeJ n q i M j)) := by
        rw [show closeJ n q i M j = leastL M (i * n + j) true (wrap64 ((cg M (i * n + q)).most + (cg M (q * n + j)).most)) by
          unfold closeJ; rw [show (cg M (i * n + q)).has = true from ha, show (cg M (q * n + j)).has = true from hb]; rfl]
        exact e
      rw [e']
      exact .bind .some nx
    · exact stay (by rw [show (cg M (q * n + j)).has = false by simpa [rce] using hb, Bool.and_false])
    · exact stay (by rw [show (cg M (i * n + q)).has = false by simpa [rce] using ha, Bool.false_and])
theorem closed_l3 (h5 : n ≤ 16) {t i : Nat} (hi : i < n) {X : List Cel} (hX : X.length = n * n) (hnext : Ev (fun k => R2_ClosedZone.l2 k (n : Int) (t : Int) ((i + 1 : Nat) : Int) N (rces (swI n X i))) r) :
    ∀ m q : Nat, q + m = n → Ev (fun k => R2_ClosedZone.l3 k (n : Int) (t : Int) (i : Int) (q : Int) N (rces (rep (swJ n i) q X))) r := by
  intro m
  induction m with
  | zero =>
    intro q hq
    obtain rfl : q = n := by omega
    exact Ev.step (fun k => by simp only [R2_ClosedZone.l3, up64 (p := i) (by omega)]; rfl) (.neg (by omega) hnext)
  | succ m ih =>
    intro q hq
    have nx := ih (q + 1) (by omega)
    rw [rep_succ] at nx
    have hM : (rep (swJ n i) q X).length = n * n := by rw [rep_length (swJ_length n i)]; exact hX
    exact Ev.step (fun k => by simp only [R2_ClosedZone.l3]; rfl) (.pos (by omega) (closed_l4 h5 hi (by omega) hM nx n 0 (by omega)))
theorem closed_l2 (h5 : n ≤ 16) {t : Nat} (ht : t ≤ 100) {X : List Cel} (hX : X.length = n * n) (hnext : Ev (fun k => R2_ClosedZone.l1 k (n : Int) ((t + 1 : Nat) : Int) N (rces (sweep n X))) r) :
    ∀ m q : Nat, q + m = n → Ev (fun k => R2_ClosedZone.l2 k (n : Int) (t : Int) (q : Int) N (rces (rep (swI n) q X))) r := by
  intro m
  induction m with
  | zero =>
    intro q hq
    obtain rfl : q = n := by omega
    exact Ev.step (fun k => by simp only [R2_ClosedZone.l2, up64 (p := t) (by omega)]; rfl) (.neg (by omega) hnext)
  | succ m ih =>
    intro q hq
    have nx := ih (q + 1) (by omega)
    rw [rep_succ] at nx
    have hM : (rep (swI n) q X).length = n * n := by rw [rep_length (swI_length n)]; exact hX
    exact Ev.step (fun k => by simp only [R2_ClosedZone.l2]; rfl) (.pos (by omega) (closed_l3 h5 (by omega) hM nx n 0 (by omega)))
theorem closed_l1 (h5 : n ≤ 16) {X : List Cel} (hX : X.length = n * n) (hnext : Ev (fun k => R2_ClosedZone.l5 k (n : Int) 0 N (rces (sweeps n (n + 1) X))) r) :
    ∀ m q : Nat, q + m = n + 1 → Ev (fun k => R2_ClosedZone.l1 k (n : Int) (q : Int) N (rces (sweeps n q X))) r := by
  intro m
  induction m with
  | zero =>
    intro q hq
    obtain rfl : q = n + 1 := by omega
    exact Ev.step (fun k => by simp only [R2_ClosedZone.l1]; rfl) (.neg (by omega) hnext)
  | succ m ih =>
    intro q hq
    have nx := ih (q + 1) (by omega)
    have hM : (sweeps n q X).length = n * n := by
      have : (rep (fun M _ => sweep n M) q X).length = X.length := rep_length (f := fun M _ => sweep n M) (fun L _ => sweep_length n L) q X
      rw [sweeps, this]; exact hX
    exact Ev.step (fun k => by simp only [R2_ClosedZone.l1]; rfl) (.pos (by omega) (closed_l2 h5 (by omega) hM nx n 0 (by omega)))
theorem closed_l0 (h5 : n ≤ 16) {X : List Cel} (hX : X.length = n * n) (hnext : Ev (fun k => R2_ClosedZone.l1 k (n : Int) 0 N (rces (diag n X))) r) :
    ∀ m q : Nat, q + m = n → Ev (fun k => R2_ClosedZone.l0 k (n : Int) (q : Int) N (rces (rep (closeD n) q X))) r := by
  intro m
  induction m with
  | zero =>
    intro q hq
    obtain rfl : q = n := by omega
    exact Ev.step (fun k => by simp only [R2_ClosedZone.l0]; rfl) (.neg (by omega) hnext)
  | succ m ih =>
    intro q hq
    have hq' : q < n := by omega
    have nx := ih (q + 1) (by omega)
    rw [rep_succ, closeD] at nx
    have hM : (rep (closeD n) q X).length = n * n := by rw [rep_length (closeD_length n)]; exact hX
    generalize rep (closeD n) q X = M at nx hM ⊢
    obtain ⟨b, e⟩ := lower_val (L := M) (i := q * n + q) (by rw [hM]; exact idx_lt hq' hq') 0
    refine Ev.step (fun k => by simp only [R2_ClosedZone.l0, ix64 (p := q) (q := q) h5 hq' hq', up64 (p := q) (by omega), e]; rfl) (.pos (by omega) (.bind .some nx))
end
/-- What the reference's closing comes to, as it is printed. -/
def shutR (N : Int) (C : Option (List Cel)) : Int × List RC × Bool := match C with | none => (0, [], false) | some C => (N, rces C, true)
theorem ev_Closed {N : Int} {n : Nat} {l : List RC} (hn : N + 1 = n) (h5 : n ≤ 16) (hl : (rels l).length = n * n) : Ev (fun k => R2_ClosedZone.f k N l) (shutR N (refClose n (rels l))) := by
  have hle : n * n ≤ 16 * 16 := Nat.mul_le_mul h5 h5
  have hl' : l.length = n * n := by rw [← rels_length]; exact hl
  unfold R2_ClosedZone.f
  refine .pos (by simp; omega) ?_
  rw [List.nil_append, w64 (n := N + 1) (by omega) (by omega), hn, ← rces_rels l]
  rw [rces_rels l]
  have hS : (sweeps n (n + 1) (diag n (rels l))).length = n * n := by
    have : (rep (fun M _ => sweep n M) (n + 1) (diag n (rels l))).length = (diag n (rels l)).length := rep_length (f := fun M _ => sweep n M) (fun L _ => sweep_length n L) (n + 1) (diag n (rels l))
    rw [sweeps, this, diag_length]; exact hl
  have fin : Ev (fun k => R2_ClosedZone.l5 k (n : Int) 0 N (rces (sweeps n (n + 1) (diag n (rels l))))) (shutR N (refClose n (rels l))) := by
    unfold refClose
    generalize sweeps n (n + 1) (diag n (rels l)) = S at hS ⊢
    have key : ∀ m q : Nat, q + m = n → (∀ j, j < q → okAt n S j = true) → Ev (fun k => R2_ClosedZone.l5 k (n : Int) (q : Int) N (rces S)) (shutR N (if okL n S = true then some (S.map clipC) else none)) := by
      intro m
      induction m with
      | zero =>
        intro q hq hall
        obtain rfl : q = n := by omega
        rw [if_pos (show okL q S = true from List.all_eq_true.2 fun j hj => hall j (List.mem_range.1 hj))]
        refine Ev.step (fun k => by simp only [R2_ClosedZone.l5]; rfl) (.neg (by omega) (.bind (ev_clip S (by omega)) .some))
      | succ m ih =>
        intro q hq hall
        have hq' : q < n := by omega
        refine Ev.step (fun k => by simp only [R2_ClosedZone.l5, ix64 (p := q) (q := q) h5 hq' hq', rdR_cg, up64 (p := q) (by omega)]; rfl) (.pos (by omega) (.pos (by omega) (.pos (by rw [rces_length, hS]; have := idx_lt hq' hq'; omega) (.ite (fun h0 => ?_) (fun h0 => ?_)))))
        · rw [if_neg]
          · exact .some
          · intro z
            have := okL_iff.1 z q hq'
            have h0' : (cg S (q * n + q)).most < 0 := h0
            omega
        · refine ih (q + 1) (by omega) fun j hj => ?_
          rcases Nat.lt_or_ge j q with h | h
          · exact hall j h
          · obtain rfl : j = q := by omega
            have h0' : ¬ (cg S (j * n + j)).most < 0 := h0
            simp [okAt, h0']
    exact key n 0 (by omega) (fun j hj => absurd hj (by omega))
  have h1 := closed_l1 h5 (by rw [diag_length]; exact hl) fin (n + 1) 0 (by omega)
  have h0 := closed_l0 h5 hl h1 n 0 (by omega)
  rw [show rep (closeD n) 0 (rels l) = rels l from rfl, rces_rels] at h0
  exact h0
end Go.Proofs.Rcp
/- Plain law: the law 'ZoneWiden' as it is printed is true, whatever it is given. -/
set_option linter.unusedVariables false
set_option linter.unusedSimpArgs false
namespace Go.Proofs.Rcp
open Go.RowKit Go.Proofs.Rcg Go.Proofs.Rcn Go.Proofs.YtcalcnfppnbooaaDoor.Z Go.Proofs.YtcalcnfppnbooaaDoorW.PrintWords Go.Proofs.YtcalcnfppnbooaaDoorW.PrintMore

/-- One of the errors that zones come to. -/
def few4 (o : Option Int) : Prop := o = none ∨ o = some 2 ∨ o = some 3 ∨ o = some 4
theorem coded_few4 {o : Option Int} (h : few4 o) (a : Int) : L2_coded.f o a = some (decide (eN o = a)) := by
  rcases h with rfl | rfl | rfl | rfl <;> simp [L2_coded.f]
theorem few4_zErr (N : Int) (L : List Cel) : few4 (zErr N L) := by
  rw [zErr_eq]
  repeat' split
  all_goals first | exact .inl rfl | exact .inr (.inl rfl) | exact .inr (.inr (.inl rfl))
theorem few4_zTwo (N : Int) (L : List Cel) (M : Int) (K : List Cel) : few4 (zTwo N L M K) := by
  unfold zTwo
  have h1 := few4_zErr N L
  have h2 := few4_zErr M K
  cases e1 : zErr N L with
  | some e => rw [e1] at h1; exact h1
  | none =>
    cases e2 : zErr M K with
    | some e => rw [e2] at h2; exact h2
    | none =>
      simp only
      split
      · exact .inl rfl
      · exact .inr (.inr (.inl rfl))
theorem eN_pos {o : Option Int} (h : few4 o) : (o = none ∧ eN o = 0) ∨ (∃ e, o = some e ∧ eN o > 0 ∧ eN o ≠ 0) := by
  rcases h with rfl | rfl | rfl | rfl
  · exact .inl ⟨rfl, rfl⟩
  · exact .inr ⟨2, rfl, by decide, by decide⟩
  · exact .inr ⟨3, rfl, by decide, by decide⟩
  · exact .inr ⟨4, rfl, by decide, by decide⟩
theorem ev_TwoZones {N M : Int} {l m : List RC} (hl : l.length ≤ 1000) (hm : m.length ≤ 1000) : Ev (fun k => R2_TwoZones.f k N l M m) (eN (zTwo N (rels l) M (rels m))) := by
  unfold R2_TwoZones.f zTwo
  refine .bind (ev_ZoneError hl) ?_
  rcases eN_pos (few4_zErr N (rels l)) with ⟨e, h0⟩ | ⟨e, h, _, h1⟩
  · rw [e]
    refine .pos rfl (.bind (ev_ZoneError hm) ?_)
    rcases eN_pos (few4_zErr M (rels m)) with ⟨e2, _⟩ | ⟨e2, h2, _, h3⟩
    · rw [e2]
      refine .pos rfl (.ite (fun h => ?_) (fun h => ?_))
      · simp only [if_pos h]; exact .some
      · simp only [if_neg h]; exact .some
    · rw [h2] at h3 ⊢
      exact .neg h3 .some
  · rw [h] at h1 ⊢
    exact .neg h1 .some
theorem widenL_cg {L K : List Cel} (i : Nat) (hi : i < L.length) : cg (widenL L K) i = widenC (cg L i) (cg K i) := by
  unfold widenL
  rw [cg_rep_set (fun c i => widenC c (cg K i)) L L.length (Nat.le_refl _) i, if_pos hi]
theorem widenL_length (L K : List Cel) : (widenL L K).length = L.length := rep_length (f := fun X i => X.set i (widenC (cg X i) (cg K i))) (fun X k => by simp) _ L
theorem take_cg {Y : List Cel} {i : Nat} (hi : i < Y.length) : rces (Y.take (i + 1)) = rces (Y.take i) ++ [rce (cg Y i)] := by
  have e : Y.take (i + 1) = Y.take i ++ [cg Y i] := by
    rw [List.take_succ_eq_append_getElem hi]
    simp [cg, List.getD_eq_getElem?_getD, List.getElem?_eq_getElem hi]
  rw [e]
  simp only [rces, List.map_append, List.map_cons, List.map_nil]
theorem ev_widened {L K : List Cel} {n : Nat} (h1000 : n ≤ 1000) (hL : L.length = n) (hK : K.length = n) : Ev (fun k => R2_WidenedCells.f k (rces L) (rces K)) (rces (widenL L K)) := by
  have hY : (widenL L K).length = n := by rw [widenL_length, hL]
  have hY2 : ∀ i, i < n → cg (widenL L K) i = widenC (cg L i) (cg K i) := fun i hi => widenL_cg i (by omega)
  generalize widenL L K = Y at hY hY2 ⊢
  have key : ∀ m i : Nat, i + m = n → Ev (fun k => R2_WidenedCells.l0 k (rces L) (rces K) (rces (Y.take i)) (i : Int)) (rces Y) := by
    intro m
    induction m with
    | zero =>
      intro i hi
      obtain rfl : i = n := by omega
      rw [List.take_of_length_le (by omega)]
      exact Ev.step (fun k => by simp only [R2_WidenedCells.l0]; rfl) (.neg (by rw [rces_length]; omega) .some)
    | succ m ih =>
      intro i hi
      have nx := ih (i + 1) (by omega)
      rw [take_cg (by omega), hY2 i (by omega)] at nx
      have hlen : (rces (Y.take i)).length < 8796093022208 := by rw [rces_length, List.length_take]; omega
      generalize rces (Y.take i) = T at nx hlen ⊢
      generalize hc : cg L i = c at nx
      generalize hd : cg K i = d at nx
      obtain ⟨ch, cm⟩ := c
      obtain ⟨dh, dm⟩ := d
      refine Ev.step (fun k => by simp only [R2_WidenedCells.l0, rdR_cg, hc, hd, up64 (p := i) (by omega)]; rfl) (.pos (by rw [rces_length]; omega) (.pos (by omega) (.ite (fun h1 => .pos (by rw [rces_length]; omega) (.ite (fun h2 => .ite (fun h3 => .pos hlen ?_) (fun h3 => .pos hlen ?_)) (fun h2 => .pos hlen ?_))) (fun h1 => .pos hlen ?_))))
      · have a1 : ch = true := h1
        have a2 : dh = true := h2
        have a3 : dm > cm := h3
        subst a1 a2
        have e : widenC ⟨true, cm⟩ ⟨true, dm⟩ = ⟨false, 0⟩ := by simp [widenC, a3]
        rw [e] at nx; exact nx
      · have a1 : ch = true := h1
        have a2 : dh = true := h2
        have a3 : ¬ dm > cm := h3
        subst a1 a2
        have e : widenC ⟨true, cm⟩ ⟨true, dm⟩ = ⟨true, cm⟩ := by simp [widenC]; omega
        rw [e] at nx; exact nx
      · have a1 : ch = true := h1
        have a2 : dh = false := by simpa [rce] using h2
        subst a1 a2
        have e : widenC ⟨true, cm⟩ ⟨false, dm⟩ = ⟨false, 0⟩ := by simp [widenC]
        rw [e] at nx; exact nx
      · have a1 : ch = false := by simpa [rce] using h1
        subst a1
        have e : widenC ⟨false, cm⟩ ⟨dh, dm⟩ = ⟨false, cm⟩ := by simp [widenC]
        rw [e] at nx; exact nx
  unfold R2_WidenedCells.f
  exact key n 0 (by omega)

/-- The error of a variable's bounds. -/
def bErr (N : Int) (L : List Cel) (x : Int) : Option Int := match zErr N L with | some e => some e | none => if x < 1 ∨ x > N then some 3 else none
theorem few4_bErr (N : Int) (L : List Cel) (x : Int) : few4 (bErr N L x) := by
  have h1 := few4_zErr N L
  unfold bErr
  cases e1 : zErr N L with
  | some e => rw [e1] at h1; exact h1
  | none =>
    simp only
    split
    · exact .inr (.inr (.inl rfl))
    · exact .inl rfl
theorem neg_norm {c : Cel} (h : c.has = false → c.most = 0) : (if c.has = true then wrap64 (-c.most) else 0) = wrap64 (-c.most) ∧ (if c.has = true then c.most else 0) = c.most := by
  obtain ⟨b, m⟩ := c
  cases b
  · obtain rfl : m = 0 := h rfl
    exact ⟨by simp [wrap64], by simp⟩
  · exact ⟨rfl, rfl⟩
theorem mul64n {y n : Nat} {N : Int} (hn : N + 1 = n) (h5 : n ≤ 16) (hy : y < n) : wrap64 ((y : Int) * (wrap64 (N + 1))) = ((y * n : Nat) : Int) := by
  have h : y * n < n * n := Nat.mul_lt_mul_of_pos_right hy (by omega)
  have h2 : n * n ≤ 16 * 16 := Nat.mul_le_mul h5 h5
  rw [w64 (n := N + 1) (by omega) (by omega), hn, w64 (by have : (y : Int) * (n : Int) = ((y * n : Nat) : Int) := by push_cast; rfl
                                                          omega) (by have : (y : Int) * (n : Int) = ((y * n : Nat) : Int) := by push_cast; rfl
                                                                     omega)]
  push_cast; rfl
section
variable {N M x x8 W0 : Int} {l m : List RC} {x10 : Option Int} {W1 : List ZC}
theorem bounds_core (hl : l.length ≤ 100) (nx : Ev (fun k => L2_ZoneWiden.j3 k x8 x10 N l M m W0 W1) true) {v : Int} (hv : v = eN (bErr N (rels l) x)) :
    Ev (fun k => L2_ZoneWiden.j2 k x x8 x10 v N l M m W0 W1) true := by
  refine Ev.step (fun k => by simp only [L2_ZoneWiden.j2]; rfl) (.bind (ev_zoneOf (N := N) (l := l) (by omega)) ?_)
  have hB4 := few4_bErr N (rels l) x
  rcases eN_pos hB4 with ⟨hb, h0⟩ | ⟨e, hb, hpos, _⟩
  · rw [hb] at hv
    obtain rfl : v = 0 := hv
    unfold bErr at hb
    cases e1 : zErr N (rels l) with
    | some e => rw [e1] at hb; simp at hb
    | none =>
      rw [e1] at hb
      simp only at hb
      have hx : ¬ (x < 1 ∨ x > N) := by intro q; rw [if_pos q] at hb; cases hb
      obtain ⟨n, hn, h1, h5, hlen, _, _⟩ := zErr_none e1
      obtain ⟨y, rfl⟩ : ∃ y : Nat, x = y := ⟨x.toNat, by omega⟩
      have hyn : y < n := by omega
      have hB : zone_Bounds.f N (zces (rels l)) (y : Int) = some (match closeZ n (rels l) with
          | none => (false, false, 0, 0, false, none)
          | some C => (!(cg C (y * n)).has, !(cg C y).has, wrap64 (-(cg C (y * n)).most), (cg C y).most, true, none)) := by
        unfold zone_Bounds.f
        rw [cels_zces, e1]
        simp only [if_neg hx, show (N + 1).toNat = n by omega, Int.toNat_natCast]
        cases closeZ n (rels l) <;> rfl
      rw [hB]
      refine .bind .some (.neg (by decide) (.bind (ev_near l) ?_))
      cases hnb : nearB (rels l) with
      | false => exact .neg Bool.false_ne_true nx
      | true =>
        have hN1 := (nearB_near hnb).2
        have R1 := ev_Closed hn (by omega) hlen
        rw [refClose_eq h5 hlen (norm_of e1) hN1 (by decide)] at R1
        refine .pos rfl (.bind R1 ?_)
        cases hz : closeZ n (rels l) with
        | none => exact .neg Bool.false_ne_true (.pos rfl (.neg Bool.false_ne_true (.neg Bool.false_ne_true nx)))
        | some C =>
          have hC := (closed_some h5 hlen (near_of e1) hz).1
          have nC : Norm C := by
            rw [closeZ_eq h5 hlen (near_of e1)] at hz
            split at hz
            · obtain rfl := Option.some.inj hz; exact norm_clip (norm_free (norm_of e1))
            · cases hz
          have i1 : y * n < n * n := Nat.mul_lt_mul_of_pos_right hyn (by omega)
          have i2 : y < n * n := Nat.lt_of_lt_of_le hyn (Nat.le_mul_of_pos_left n (by omega))
          simp only [shutR, mul64n hn (by omega) hyn, rdR_cg]
          refine .pos trivial (.pos (by omega) (.pos (by rw [rces_length, hC]; omega) (.pos (by omega) (.pos (by rw [rces_length, hC]; omega) ?_))))
          have hR : R2_RangeOf.f ((rce (cg C y)).f0) ((rce (cg C y)).f1) ((rce (cg C (y * n))).f0) ((rce (cg C (y * n))).f1) = some (!(cg C (y * n)).has, !(cg C y).has, wrap64 (-(cg C (y * n)).most), (cg C y).most) := by
            show some (!(cg C (y * n)).has, !(cg C y).has, (if (cg C (y * n)).has = true then wrap64 (-(cg C (y * n)).most) else 0), (if (cg C y).has = true then (cg C y).most else 0)) = _
            rw [(neg_norm (nC (y * n))).1, (neg_norm (nC y)).2]
          rw [hR]
          refine .bind .some (.pos rfl (.neg (by simp) (.neg (by simp) nx)))
  · rw [hb] at hB4 hv
    have hB : zone_Bounds.f N (zces (rels l)) x = some (false, false, 0, 0, false, some e) := by
      unfold bErr at hb
      unfold zone_Bounds.f
      rw [cels_zces]
      cases e1 : zErr N (rels l) with
      | some e2 => rw [e1] at hb; obtain rfl := Option.some.inj hb; rfl
      | none =>
        rw [e1] at hb
        simp only at hb ⊢
        split at hb
        · rename_i q; rw [if_pos q]; obtain rfl := Option.some.inj hb; rfl
        · cases hb
    rw [hB]
    refine .bind .some (.pos (by rw [hv, ← hb]; exact hpos) ?_)
    rw [coded_few4 hB4]
    exact .bind .some (.pos (by rw [hv]; simp) (.neg Bool.false_ne_true (.neg Bool.false_ne_true nx)))
theorem widen_core (hl : l.length ≤ 100) (hm : m.length ≤ 100) (hj : zone_Widen.f N (zces (rels l)) M (zces (rels m)) = some (W0, W1, x10)) (h8 : x8 = eN (zTwo N (rels l) M (rels m))) :
    Ev (fun k => L2_ZoneWiden.j3 k x8 x10 N l M m W0 W1) true := by
  have hT4 := few4_zTwo N (rels l) M (rels m)
  unfold zone_Widen.f at hj
  rw [cels_zces, cels_zces] at hj
  refine Ev.step (fun k => by simp only [L2_ZoneWiden.j3]; rfl) ?_
  rcases eN_pos hT4 with ⟨hT, h0⟩ | ⟨e, hT, hpos, _⟩
  · rw [h0] at h8
    subst h8
    rw [hT] at hj
    obtain ⟨e1, e2, rfl⟩ := zTwo_none hT
    obtain ⟨n, hn, h1, h5, hlen, _, _⟩ := zErr_none e1
    obtain ⟨n2, hn2, _, _, hlen2, _, _⟩ := zErr_none e2
    obtain rfl : n2 = n := by omega
    have hnn : n2 * n2 ≤ 25 := Nat.mul_le_mul h5 h5
    have out : Ev (fun k => L2_ZoneWiden.j4 k x10 true N l N m W0 W1) true := Ev.step (h := fun _ => some true) (fun k => by simp only [L2_ZoneWiden.j4, if_true]) .some
    refine .neg (by decide) (.bind (ev_near l) ?_)
    cases hb : nearB (rels l) with
    | false => exact .neg Bool.false_ne_true out
    | true =>
      refine .pos rfl (.bind (ev_near m) ?_)
      cases hb2 : nearB (rels m) with
      | false => exact out
      | true =>
        have R1 := ev_Closed hn (by omega) hlen
        have R2 := ev_Closed hn (by omega) hlen2
        rw [refClose_eq h5 hlen (norm_of e1) (nearB_near hb).2 (by decide)] at R1
        rw [refClose_eq h5 hlen2 (norm_of e2) (nearB_near hb2).2 (by decide)] at R2
        show Ev (fun k => L2_ZoneWiden.j4 k x10 false N l N m W0 W1) true
        refine Ev.step (fun k => by simp only [L2_ZoneWiden.j4, Bool.false_eq_true, if_false]; rfl) (.bind R1 (.bind R2 ?_))
        simp only [show (N + 1).toNat = n2 by omega] at hj
        have same : ∀ J : List Cel, J.length = n2 * n2 → Ev (fun k => L2_isZone.f k N (zces J) N (rces J)) true := by
          intro J hJ
          have := ev_isZone (N := N) (M := N) (l := zces J) (m := rces J) (by rw [zces_length, hJ]; omega)
          rw [decide_eq_true (by rw [cels_zces, rels_rces]; exact ⟨rfl, rfl⟩)] at this
          exact this
        have self : Ev (fun k => L2_isZone.f k N (zces (rels l)) N l) true := by
          have := same (rels l) hlen
          rwa [rces_rels] at this
        cases hz1 : closeZ n2 (rels l) with
        | none =>
          rw [hz1] at hj
          cases hz2 : closeZ n2 (rels m) with
          | none =>
            rw [hz2] at hj
            simp only [Option.some.injEq, Prod.mk.injEq] at hj
            obtain ⟨rfl, rfl, rfl⟩ := hj
            refine .neg Bool.false_ne_true ?_
            show Ev (fun k => L2_ZoneWiden.j5 k none false false false N l N (zces (rels l)) 0 [] N l) true
            refine Ev.step (fun k => by simp only [L2_ZoneWiden.j5, Bool.false_eq_true, if_false]; rfl) ?_
            refine Ev.step (fun k => by simp only [L2_ZoneWiden.j7, Bool.false_eq_true, if_false]; rfl) ?_
            exact (.pos rfl (.bind self .some))
          | some K =>
            rw [hz2] at hj
            simp only [Option.some.injEq, Prod.mk.injEq] at hj
            obtain ⟨rfl, rfl, rfl⟩ := hj
            refine .neg Bool.false_ne_true ?_
            show Ev (fun k => L2_ZoneWiden.j5 k none false true true N l N (zces K) N (rces K) N l) true
            refine Ev.step (fun k => by simp only [L2_ZoneWiden.j5, Bool.false_eq_true, if_true, if_false]; rfl) ?_
            refine Ev.step (fun k => by simp only [L2_ZoneWiden.j6, Bool.false_eq_true, if_false]; rfl) ?_
            exact (.pos rfl (.bind (same K (closed_some h5 hlen2 (near_of e2) hz2).1) .some))
        | some C =>
          rw [hz1] at hj
          cases hz2 : closeZ n2 (rels m) with
          | none =>
            rw [hz2] at hj
            simp only [Option.some.injEq, Prod.mk.injEq] at hj
            obtain ⟨rfl, rfl, rfl⟩ := hj
            refine .pos rfl ?_
            show Ev (fun k => L2_ZoneWiden.j5 k none true false false N l N (zces (rels l)) 0 [] N l) true
            refine Ev.step (fun k => by simp only [L2_ZoneWiden.j5, Bool.false_eq_true, if_true, if_false]; rfl) ?_
            refine Ev.step (fun k => by simp only [L2_ZoneWiden.j7, Bool.false_eq_true, if_false]; rfl) ?_
            exact (.pos (show (none : Option Int).isNone = true from rfl) (.bind self .some))
          | some K =>
            rw [hz2] at hj
            simp only [Option.some.injEq, Prod.mk.injEq] at hj
            obtain ⟨rfl, rfl, rfl⟩ := hj
            refine .pos rfl ?_
            show Ev (fun k => L2_ZoneWiden.j5 k none true true false N l N (zces (widenL (rels l) K)) N (rces K) N l) true
            refine Ev.step (fun k => by simp only [L2_ZoneWiden.j5, Bool.false_eq_true, if_true, if_false]; rfl) ?_
            have hK := (closed_some h5 hlen2 (near_of e2) hz2).1
            have hw := ev_widened (n := n2 * n2) (by omega) hlen hK
            rw [rces_rels] at hw
            refine Ev.step (fun k => by simp only [L2_ZoneWiden.j7, if_true]; rfl) ?_
            exact (.bind hw (.pos rfl (.bind (same (widenL (rels l) K) (by rw [widenL_length]; exact hlen)) .some)))
  · rw [hT] at hT4 hpos hj h8
    simp only [Option.some.injEq, Prod.mk.injEq] at hj
    obtain ⟨rfl, rfl, rfl⟩ := hj
    subst h8
    refine .pos hpos ?_
    rw [coded_few4 hT4]
    refine .bind .some (.pos (by simp) (.bind (x := true) (.of fun k => rfl) .some))
theorem pure_ZoneWiden (N : Int) (l : List RC) (M : Int) (m : List RC) (x : Int) : Ev (fun k => L2_ZoneWiden.f k N l M m x) true := by
  have skip : Ev (fun k => L2_ZoneWiden.j0 k x true true N l M m) true := Ev.step (h := fun _ => some true) (fun k => by simp only [L2_ZoneWiden.j0, if_true]) .some
  unfold L2_ZoneWiden.f
  refine .bind ev_free (.pos rfl (.ite (fun _ => skip) (fun hl => ?_)))
  by_cases hm : (m.length : Int) > 100
  · rw [decide_eq_true hm]; exact skip
  rw [decide_eq_false hm]
  have Z1 := ev_zoneOf (N := N) (l := l) (by omega)
  have Z2 := ev_zoneOf (N := M) (l := m) (by omega)
  refine Ev.step (fun k => by simp only [L2_ZoneWiden.j0, Bool.false_eq_true, if_false]; rfl) (.bind (ev_TwoZones (by omega) (by omega)) (.bind Z1 (.bind Z2 ?_)))
  obtain ⟨W0, W1, x10, hj⟩ : ∃ W0 W1 x10, zone_Widen.f N (zces (rels l)) M (zces (rels m)) = some (W0, W1, x10) := by
    unfold zone_Widen.f
    rw [cels_zces, cels_zces]
    cases zTwo N (rels l) M (rels m) with
    | some e => exact ⟨_, _, _, rfl⟩
    | none => cases closeZ (N + 1).toNat (rels l) <;> cases closeZ (N + 1).toNat (rels m) <;> exact ⟨_, _, _, rfl⟩
  simp only [hj]
  have W := widen_core (by omega) (by omega) hj rfl
  have J : ∀ v, v = eN (bErr N (rels l) x) → Ev (fun k => L2_ZoneWiden.j2 k x (eN (zTwo N (rels l) M (rels m))) x10 v N l M m W0 W1) true := fun v hv => bounds_core (by omega) W hv
  refine .bind .some (.bind (ev_ZoneError (by omega)) ?_)
  have b1 : ∀ v, v = eN (bErr N (rels l) x) → Ev (fun k => L2_ZoneWiden.j1 k x (eN (zTwo N (rels l) M (rels m))) x10 v false N l M m W0 W1) true := fun v hv => Ev.step (fun k => by simp only [L2_ZoneWiden.j1, Bool.false_eq_true, if_false]) (J v hv)
  have b2 : 3 = eN (bErr N (rels l) x) → ∀ v, Ev (fun k => L2_ZoneWiden.j1 k x (eN (zTwo N (rels l) M (rels m))) x10 v true N l M m W0 W1) true := fun h v => Ev.step (fun k => by simp only [L2_ZoneWiden.j1, if_true]) (J 3 h)
  rcases eN_pos (few4_zErr N (rels l)) with ⟨e, h0⟩ | ⟨e, h, _, h1⟩
  · have hbe : bErr N (rels l) x = if x < 1 ∨ x > N then some 3 else none := by unfold bErr; rw [e]
    refine .pos h0 (.ite (fun hx => ?_) (fun hx => ?_))
    · exact b2 (by rw [hbe, if_pos (.inl hx)]; rfl) _
    · by_cases hx2 : x > N
      · rw [decide_eq_true hx2]; exact b2 (by rw [hbe, if_pos (.inr hx2)]; rfl) _
      · rw [decide_eq_false hx2]; exact b1 _ (by rw [hbe, if_neg (by omega), h0]; rfl)
  · refine .neg h1 (b1 _ ?_)
    have hbe : bErr N (rels l) x = some e := by unfold bErr; rw [h]
    rw [hbe, h]
end
end Go.Proofs.Rcp
/- What every law's row asks behind the walk: it answered true, and nothing that was there has turned. Of whatever program. -/
set_option linter.unusedVariables false
namespace Go.Proofs.Rcn
open Go Go.RowKit Go.ChangeShapes Go.WideShapes

theorem trodAll_below {H : Type} {enc : TypeId × Value → H} {P : Program} (hl : laidOutB P = true) {W W' : World} (hb : Below W.heap.size W W') :
    ∀ (ts : List TypeId) (vs : List Value) (ds : List (DataW H)) (ps : List MemPlace), (∀ t ∈ ts, P.readableRec t = true ∧ t < P.types.size) → (∀ x ∈ ps, x.block < W.heap.size) →
      DataW.TrodAll enc P W 0 (fun _ => true) true ts vs ds ps → DataW.TrodAll enc P W' 0 (fun b => decide (b < W.heap.size)) true ts vs ds ps
  | [], vs, ds, ps, _, _, h => by
    obtain ⟨rfl, rfl, rfl⟩ := trodAll_nil h
    exact rfl
  | t :: ts, vs, ds, ps, ht, hp, h => by
    obtain ⟨v, vs', d, ds', p, q, rfl, rfl, rfl, h1, h2⟩ := trodAll_cons h
    have t1 := ht t (by simp)
    exact trodAll_cons_mk (Below.trod hl t1.1 t1.2 h1 hb fun x hx => hp x (by simp [hx]))
      (trodAll_below hl hb ts vs' ds' q (fun u hu => ht u (by simp [hu])) (fun x hx => hp x (by simp [hx])) h2)

theorem law_post {H : Type} {enc : TypeId × Value → H} {P : Program} {f : Func} {s : ChangeSpec} {W W' : World} {args : Array Value} {ds gs : List (DataW H)} {before : List MemPlace} {tb : TypeId}
    (hl : laidOutB P = true) (hrd : (f.params.toList.all fun t => P.readableRec t && decide (t < P.types.size)) = true) (hvars : s.vars = []) (hrt : f.resultTypes = #[tb]) (htb : P.underlying tb = some .bool)
    (hW : DataW.Whole enc P f.params.toList s.vars false W args.toList ds gs before) (hfn : s.fn H ds = { results := [.lit (.bool true)], args := ds }) (hb : Below W.heap.size W W') :
    s.post enc P f false true false false W args (.bool true) W' := by
  have hlt : ∀ x ∈ before, x.block < W.heap.size := fun x hx => hW.lt x hx
  have hW0 := hW
  obtain ⟨p, q, hA, hV, rfl, _, _⟩ := hW
  rw [hvars] at hV
  obtain ⟨rfl, rfl⟩ := trodVars_none hV
  rw [List.append_nil] at hW0 hlt
  refine ⟨ds, [], p, [], p, [], hW0, ?_, ?_, ?_, World.keptBut_mono (fun x hx => ⟨hx, .inr (.inl hx)⟩) (hb.frame (· ∈ p)), fun h => by cases h⟩
  · rw [List.append_nil, hfn, hrt]
    exact trodAll_mk1 (shut_bool htb true)
  · rw [List.append_nil, hfn]
    refine trodAll_below hl hb _ _ _ _ (fun t ht => ?_) hlt hA
    have := List.all_eq_true.1 hrd t ht
    simpa using this
  · rw [List.append_nil, hfn, hvars]
    rfl
end Go.Proofs.Rcn
/- The sentinels that a row lists, all eight, and errors.errorType: where each lies, each in a block of its own. -/
set_option linter.unusedVariables false
namespace Go.Proofs.Rcp
open Go Go.RowKit Go.ChangeShapes Go.WideShapes Go.Proofs.Rcg

theorem err_star : "*" ++ "errors.errorString" = "*errors.errorString" := by decide
theorem err_row (u : TypeId) (h : Tryd.prog.typeName? 3 u = some "*errors.errorString") : u = 210 :=
  typeName_ptr_named (nm := "errors.errorString") (by rw [err_star]; kernel_rfl) (by kernel_rfl) (by decide) u (by rw [err_star]; exact h)

set_option maxRecDepth 100000 in
theorem sentinelO {n : String} {g : Nat} {text : List UInt8} {l : List (String × DataW Unit)} {W : World} (hL : laidMetH Tryd.prog l W) (hg : Tryd.prog.globalNamed n = some g) (ht : (Tryd.prog.globals[g]?).map (·.type) = some 32)
    (hf : (l.filter fun x => x.1 == n) = [(n, .iface "*errors.errorString" (.ptr (.agg [.lit (.string text)])))]) :
    ∃ (a : Addr) (s : ByteArray) (cs : Array Value) (t : TypeId), W.cell? ⟨g, 0, none⟩ = some (.iface 210 (.pointer (some a))) ∧ W.cell? a = some (.string s) ∧ s.data.toList = text ∧ W.heap[a.block]? = some (.cells cs t (0, 0)) := by
  have h := laidMetH.filter (fun x => x.1 == n) hL
  rw [hf, MakeChecks.laidMetH_plain _ _ _ (by rfl)] at h
  obtain ⟨ps, ⟨g0, t0, cs0, f0, p0, q0, hg0, ht0, hv0, hd0, _, e0⟩, _, hrows⟩ := h
  obtain rfl := Option.some.inj (hg.symm.trans hg0)
  obtain rfl := Option.some.inj (ht.symm.trans ht0)
  subst e0
  obtain ⟨l0⟩ := cs0
  have ok0 : ∀ u v, l0 = [.iface u v] → Value.okWide Tryd.prog W .any 0 u v := fun u v e => by
    subst e
    exact (hrows g 0 (by simp [MemPlace.row])).2 u v (by simpa using World.var?_cell hg0 hv0 0)
  obtain ⟨a0, s0, rfl, hc0, hs0, hz0, rfl⟩ := errorString_of_trod Tryd.underlying32 err_row Tryd.underlying210 Tryd.underlying234 rfl rfl Tryd.underlying9 (by kernel_rfl) (by kernel_rfl) hd0 ok0
  obtain ⟨c0, t0, hb0⟩ := (hrows a0.block a0.off (by simp [MemPlace.row])).1
  exact ⟨a0, s0, c0, t0, by simpa using World.var?_cell hg0 hv0 0, hc0, hs0, hb0⟩

theorem rt_type : (Tryd.prog.cutTypes.find? (·.1 == "internal/reflectlite.rtype")).map (·.2) = some 196 := by kernel_rfl
set_option maxRecDepth 100000 in
theorem one_row : ((List.range 250).filter fun t => Tryd.prog.rowNamed t [101, 114, 114, 111, 114]) = [32] := by kernel_rfl
theorem nt_size : Tryd.prog.types.size = 250 := by kernel_rfl
theorem et_name : Tryd.prog.globalNamed "errors.errorType" = some 8 := by kernel_rfl
set_option maxRecDepth 100000 in
theorem handle {l : List (String × DataW Unit)} {W : World} (hL : laidMetH Tryd.prog l W)
    (hf : (l.filter fun x => x.1 == "errors.errorType") = [("errors.errorType", .iface "internal/reflectlite.rtype" (.agg [.ptr (.lit (.string [101, 114, 114, 111, 114]))]))]) :
    W.cell? ⟨8, 0, none⟩ = some (.iface 196 (.agg #[.pointer (some ⟨9, 32, none⟩)])) := by
  have h := laidMetH.filter (fun x => x.1 == "errors.errorType") hL
  rw [hf] at h
  have h' : laidMet Tryd.prog [] W ∧ handlesMet Tryd.prog [("errors.errorType", .iface "internal/reflectlite.rtype" (.agg [.ptr (.lit (.string [101, 114, 114, 111, 114]))]))] W := h
  obtain ⟨name, u, ty, e1, e2, e3, e4, e5⟩ := h'.2 _ (List.mem_singleton.2 rfl)
  have en : name = [101, 114, 114, 111, 114] := (Option.some.inj e1).symm
  subst en
  obtain rfl := Option.some.inj (rt_type.symm.trans e2)
  have hm : ty ∈ (List.range 250).filter fun t => Tryd.prog.rowNamed t [101, 114, 114, 111, 114] := List.mem_filter.2 ⟨List.mem_range.2 (by rw [← nt_size]; exact e3), e4⟩
  rw [one_row] at hm
  obtain rfl := List.mem_singleton.1 hm
  have hh : typeHandle Tryd.prog 32 = .pointer (some ⟨9, 32, none⟩) := by kernel_rfl
  rw [hh] at e5
  simpa using World.var?_cell et_name e5 0

/-- The eight texts. -/
def txt : Nat → List UInt8
  | 1 => [114, 97, 121, 99, 111, 110, 101, 58, 32, 116, 101, 120, 116]
  | 2 => [114, 97, 121, 99, 111, 110, 101, 58, 32, 98, 111, 117, 110, 100]
  | 3 => [114, 97, 121, 99, 111, 110, 101, 58, 32, 115, 104, 97, 112, 101]
  | 4 => [114, 97, 121, 99, 111, 110, 101, 58, 32, 101, 109, 112, 116, 121]
  | 5 => [114, 97, 121, 99, 111, 110, 101, 58, 32, 110, 97, 109, 101]
  | 6 => [114, 97, 121, 99, 111, 110, 101, 58, 32, 110, 111, 110, 101]
  | 7 => [114, 97, 121, 99, 111, 110, 101, 58, 32, 111, 114, 100, 101, 114]
  | 8 => [114, 97, 121, 99, 111, 110, 101, 58, 32, 112, 114, 111, 111, 102]
  | _ => []
theorem txt_inj : ∀ c d : Fin 8, txt (c + 1) = txt (d + 1) → c = d := by decide
abbrev adr8 (f : Nat → Addr) : EA := ⟨fun c => f c.toNat⟩
theorem errs9 {l : List (String × DataW Unit)} {W : World} (hL : laidMetH Tryd.prog l W)
    (h1 : (l.filter fun x => x.1 == "raycone/api.ErrText") = [("raycone/api.ErrText", .iface "*errors.errorString" (.ptr (.agg [.lit (.string (txt 1))])))])
    (h2 : (l.filter fun x => x.1 == "raycone/api.ErrBound") = [("raycone/api.ErrBound", .iface "*errors.errorString" (.ptr (.agg [.lit (.string (txt 2))])))])
    (h3 : (l.filter fun x => x.1 == "raycone/api.ErrShape") = [("raycone/api.ErrShape", .iface "*errors.errorString" (.ptr (.agg [.lit (.string (txt 3))])))])
    (h4 : (l.filter fun x => x.1 == "raycone/api.ErrEmpty") = [("raycone/api.ErrEmpty", .iface "*errors.errorString" (.ptr (.agg [.lit (.string (txt 4))])))])
    (h5 : (l.filter fun x => x.1 == "raycone/api.ErrName") = [("raycone/api.ErrName", .iface "*errors.errorString" (.ptr (.agg [.lit (.string (txt 5))])))])
    (h6 : (l.filter fun x => x.1 == "raycone/api.ErrNone") = [("raycone/api.ErrNone", .iface "*errors.errorString" (.ptr (.agg [.lit (.string (txt 6))])))])
    (h7 : (l.filter fun x => x.1 == "raycone/api.ErrOrder") = [("raycone/api.ErrOrder", .iface "*errors.errorString" (.ptr (.agg [.lit (.string (txt 7))])))])
    (h8 : (l.filter fun x => x.1 == "raycone/api.ErrProof") = [("raycone/api.ErrProof", .iface "*errors.errorString" (.ptr (.agg [.lit (.string (txt 8))])))])
    (hT : (l.filter fun x => x.1 == "errors.errorType") = [("errors.errorType", .iface "internal/reflectlite.rtype" (.agg [.ptr (.lit (.string [101, 114, 114, 111, 114]))]))]) : ∃ E : EA, @ErrAll E W := by
  obtain ⟨a1, s1, c1, t1, i1, j1, x1, o1⟩ := sentinelO hL (g := 2) (by kernel_rfl) (by kernel_rfl) h1
  obtain ⟨a2, s2, c2, t2, i2, j2, x2, o2⟩ := sentinelO hL (g := 1) (by kernel_rfl) (by kernel_rfl) h2
  obtain ⟨a3, s3, c3, t3, i3, j3, x3, o3⟩ := sentinelO hL (g := 0) (by kernel_rfl) (by kernel_rfl) h3
  obtain ⟨a4, s4, c4, t4, i4, j4, x4, o4⟩ := sentinelO hL (g := 4) (by kernel_rfl) (by kernel_rfl) h4
  obtain ⟨a5, s5, c5, t5, i5, j5, x5, o5⟩ := sentinelO hL (g := 5) (by kernel_rfl) (by kernel_rfl) h5
  obtain ⟨a6, s6, c6, t6, i6, j6, x6, o6⟩ := sentinelO hL (g := 6) (by kernel_rfl) (by kernel_rfl) h6
  obtain ⟨a7, s7, c7, t7, i7, j7, x7, o7⟩ := sentinelO hL (g := 3) (by kernel_rfl) (by kernel_rfl) h7
  obtain ⟨a8, s8, c8, t8, i8, j8, x8, o8⟩ := sentinelO hL (g := 7) (by kernel_rfl) (by kernel_rfl) h8
  have ht := handle hL hT
  let f : Nat → Addr := fun c => if c = 1 then a1 else if c = 2 then a2 else if c = 3 then a3 else if c = 4 then a4 else if c = 5 then a5 else if c = 6 then a6 else if c = 7 then a7 else a8
  have hs : ∀ c : Nat, 1 ≤ c → c ≤ 8 → ∃ s : ByteArray, W.cell? (f c) = some (.string s) ∧ s.data.toList = txt c := by
    intro c h1 h8
    match c, h1, h8 with
    | 1, _, _ => exact ⟨s1, j1, x1⟩
    | 2, _, _ => exact ⟨s2, j2, x2⟩
    | 3, _, _ => exact ⟨s3, j3, x3⟩
    | 4, _, _ => exact ⟨s4, j4, x4⟩
    | 5, _, _ => exact ⟨s5, j5, x5⟩
    | 6, _, _ => exact ⟨s6, j6, x6⟩
    | 7, _, _ => exact ⟨s7, j7, x7⟩
    | 8, _, _ => exact ⟨s8, j8, x8⟩
  have ho : ∀ c : Nat, 1 ≤ c → c ≤ 8 → ∃ cs t, W.heap[(f c).block]? = some (.cells cs t (0, 0)) := by
    intro c h1 h8
    match c, h1, h8 with
    | 1, _, _ => exact ⟨c1, t1, o1⟩
    | 2, _, _ => exact ⟨c2, t2, o2⟩
    | 3, _, _ => exact ⟨c3, t3, o3⟩
    | 4, _, _ => exact ⟨c4, t4, o4⟩
    | 5, _, _ => exact ⟨c5, t5, o5⟩
    | 6, _, _ => exact ⟨c6, t6, o6⟩
    | 7, _, _ => exact ⟨c7, t7, o7⟩
    | 8, _, _ => exact ⟨c8, t8, o8⟩
  refine ⟨adr8 f, @ErrAll.mk (adr8 f) W (@ErrAt.mk (adr8 f) _ _ _ i1) (@ErrAt.mk (adr8 f) _ _ _ i2) (@ErrAt.mk (adr8 f) _ _ _ i3) (@ErrAt.mk (adr8 f) _ _ _ i4) (@ErrAt.mk (adr8 f) _ _ _ i5) (@ErrAt.mk (adr8 f) _ _ _ i6) (@ErrAt.mk (adr8 f) _ _ _ i7) (@ErrAt.mk (adr8 f) _ _ _ i8) ht (fun c h1 h8 => ho c h1 h8) (fun c d h1 h8 k1 k8 he => ?_)⟩
  obtain ⟨s, q1, q2⟩ := hs c h1 h8
  obtain ⟨u, q3, q4⟩ := hs d k1 k8
  have he' : f c = f d := he
  rw [he', q3] at q1
  have : s = u := by injection q1 with q1; injection q1 with q1; exact q1.symm
  subst this
  have hx : txt c = txt d := q2.symm.trans q4
  have := txt_inj ⟨c - 1, by omega⟩ ⟨d - 1, by omega⟩ (by simpa [show c - 1 + 1 = c by omega, show d - 1 + 1 = d by omega] using hx)
  have := Fin.mk.inj this
  omega
end Go.Proofs.Rcp
/- What comes in, opened: numbers, rows of numbers, zones, by value, as the printed texts ask them. -/
set_option linter.unusedVariables false
set_option linter.unusedSimpArgs false
namespace Go.Proofs.Rcp
open Go Go.RowKit Go.ChangeShapes Go.WideShapes Go.Deep Go.Joins

/-- A whole number that fits. -/
def I64 (x : Int) : Prop := -9223372036854775808 ≤ x ∧ x ≤ 9223372036854775807
theorem i64_of_wf {x : Int} (h : (Lit.int .i64 x).wf = true) : I64 x := by
  simp only [Lit.wf, Bool.and_eq_true, decide_eq_true_eq] at h
  have h1 : IntKind.i64.min = -9223372036854775808 := by decide
  have h2 : IntKind.i64.max = 9223372036854775807 := by decide
  rw [h1, h2] at h
  exact ⟨by omega, by omega⟩

section
end
end Go.Proofs.Rcp

namespace Go.Proofs.Rcp
open Go Go.RowKit Go.ChangeShapes Go.WideShapes Go.Deep Go.Joins Go.Proofs.YtcalcnfppnbooaaDoorW.PrintWords
end Go.Proofs.Rcp

namespace Go.Proofs.Rcp
open Go Go.RowKit Go.ChangeShapes Go.WideShapes Go.Deep Go.Joins Go.Proofs.YtcalcnfppnbooaaDoor.Z Go.Proofs.YtcalcnfppnbooaaDoorW.PrintWords
variable {H : Type} {enc : TypeId × Value → H} {P : Program} {w : World} {base : Nat} {held : Bool}

theorem cellsC_of_pairs {t e : TypeId} {f0 f1 : Field} {fuel : Nat} {A : Option Addr} {n c : Nat} {x : DataW H × List MemPlace} (ht : P.underlying t = some (.slice e)) (he : P.underlying e = some (.struct #[f0, f1]))
    (ce : P.cellsOf e = 2) (o0 : f0.offset = 0) (o1 : f1.offset = 1) (c0 : P.cellsOf f0.type = 1) (c1 : P.cellsOf f1.type = 1) (u0 : P.underlying f0.type = some .bool) (u1 : P.underlying f1.type = some (.int .i64))
    (h : DataW.trod enc P w base (fun _ => true) held fuel t [.slice A n c] = some x) : ∃ l : List S67, n = l.length ∧ Kd.C k67 w A l.length l ∧ l.length ≤ c := by
  rcases open_slice_pairs ht he ce o0 o1 c0 c1 h with ⟨hcs, _⟩ | ⟨a, len, cap, m, k, V0, V1, D0, D1, P0, P1, hcs, _, hl, hm, hmm, _, hx⟩
  · simp at hcs
    obtain ⟨rfl, rfl, rfl⟩ := hcs
    exact ⟨[], rfl, Kd.C_nil _ _, Nat.le_refl _⟩
  · simp at hcs
    obtain ⟨rfl, rfl, rfl⟩ := hcs
    have hlm : n ≤ m := by rw [hmm]; split <;> omega
    have each : ∀ i, i < n → ∃ q : S67, w.cell? (a.add (i * 2)) = some (.bool q.f0) ∧ w.cell? (a.add (i * 2 + 1)) = some (.int .i64 q.f1) := by
      intro i hi
      obtain ⟨e0, e1, t0, t1⟩ := hx i (by omega)
      obtain ⟨b, g0, _⟩ := DataW.trod_bool u0 t0
      obtain ⟨z, g1, _, w1⟩ := DataW.trod_int u1 t1
      simp only [List.cons.injEq, and_true] at g0 g1
      exact ⟨⟨b, z⟩, by rw [e0, g0], by rw [e1, g1]⟩
    obtain ⟨f, hf⟩ : ∃ f : Nat → S67, ∀ i, i < n → w.cell? (a.add (i * 2)) = some (.bool (f i).f0) ∧ w.cell? (a.add (i * 2 + 1)) = some (.int .i64 (f i).f1) := by
      haveI : Inhabited S67 := ⟨⟨false, 0⟩⟩
      exact choose_lt each
    refine ⟨(List.range n).map f, by simp, ⟨rfl, by have : maxLen ≤ 9223372036854775807 := by decide
                                                    simp; omega, fun hn => ⟨a, rfl, fun j p hj => ?_⟩⟩, by simp; omega⟩
    have hjn : j < n := by have := (List.getElem?_eq_some_iff.1 hj).1; simpa using this
    have hp : p = f j := by
      rw [List.getElem?_map, List.getElem?_range hjn] at hj
      exact (Option.some.inj hj).symm
    subst hp
    refine ⟨_, rfl, k67_mk w (f j), fun i u hu => ?_⟩
    match i, hu with
    | 0, hu => rw [← Option.some.inj hu]; exact (hf j hjn).1
    | 1, hu => rw [← Option.some.inj hu]; exact (hf j hjn).2
theorem open_zoneK {r : Reach} {b0 : Nat} {t e : TypeId} {g0 g1 f0 f1 : Field} {v : Value} {d : DataW H} {p : List MemPlace} (hs : P.underlying t = some (.struct #[g0, g1])) (hone : oneCellFields P #[g0, g1] = true) (hC : P.cellsOf t = 2)
    (h0 : P.underlying g0.type = some (.int .i64)) (h1 : P.underlying g1.type = some (.slice e)) (he : P.underlying e = some (.struct #[f0, f1]))
    (ce : P.cellsOf e = 2) (o0 : f0.offset = 0) (o1 : f1.offset = 1) (c0 : P.cellsOf f0.type = 1) (c1 : P.cellsOf f1.type = 1) (u0 : P.underlying f0.type = some .bool) (u1 : P.underlying f1.type = some (.int .i64))
    (hv : Value.okWide P w r b0 t v) (h : DataW.Trod enc P w base (fun _ => true) held t v d p) :
    ∃ (N : Int) (A : Option Addr) (c : Nat) (l : List S67), v = .agg #[.int .i64 N, .slice A l.length c] ∧ I64 N ∧ Kd.C k67 w A l.length l ∧ l.length ≤ c := by
  obtain ⟨v0, v1, y0, y1, n, rfl, _, _, t0, t1⟩ := open_agg2 hs hone hC hv h
  obtain ⟨n0, e0, _, w0⟩ := DataW.trod_int h0 t0
  simp only [List.cons.injEq, and_true] at e0
  subst e0
  obtain ⟨a, l, c, hsl⟩ := slice_form h1 t1
  simp only [List.cons.injEq, and_true] at hsl
  subst hsl
  obtain ⟨L, rfl, h2, h3⟩ := cellsC_of_pairs h1 he ce o0 o1 c0 c1 u0 u1 t1
  exact ⟨n0, a, c, L, rfl, i64_of_wf w0, h2, h3⟩
end Go.Proofs.Rcp
/- The law 'ZoneWiden': whatever its arguments, it answers true, and each argument reads as it read. No condition. The row's statement, and its tied card. -/
set_option linter.unusedVariables false
namespace Go.Proofs.YtcalcnfppnbooaaDoor.lawZoneWiden
open Go.ChangeShapes Go.WideShapes Go.ChangeAt Go.RowKit Go.Proofs.Rcp
open Go.Proofs.Rcn (law_post)

theorem own : ownKnob Tryd.prog.godebug = none := by kernel_rfl
theorem laidOut : laidOutB Tryd.prog = true := by kernel_rfl
theorem readable : (Tryd.f5.params.toList.all fun t => Tryd.prog.readableRec t && decide (t < Tryd.prog.types.size)) = true := by kernel_rfl
theorem door_met (os : Os) (args : Array Value) : laidMetH Tryd.prog Rows.zoneWidenRow.laid ((World.doorLaid Tryd.prog 168 os).forCall (fun _ _ => 0) ⟨#[], args, []⟩).memory :=
  laidMetH_of_parts3 (fuel := 8) (laidMet_of_run' 8 (by kernel_rfl) (by kernel_rfl)) (by kernel_rfl) (by kernel_rfl)

set_option maxRecDepth 100000 in
theorem lifted (os : Os) (started : os.Started) (H : Type) (enc : TypeId × Value → H) :
    ReturnsInHanded {} Tryd.checked os 5 .any (fun w args => (Rows.zoneWidenSpec.pre enc Tryd.prog Tryd.f5 [] false w args ∧ laidMetH Tryd.prog Rows.zoneWidenRow.laid w) ∧ sizedMet enc Tryd.prog Tryd.f5 (OpenSpec.ofChange Rows.zoneWidenSpec) false w args)
      (Rows.zoneWidenSpec.post enc Tryd.prog Tryd.f5 false true false false) := by
  refine returnsInHanded_of_change_and (C := Tryd.checked) (X := fun w _ => laidMetH Tryd.prog Rows.zoneWidenRow.laid w) (fun _ _ _ hh h => h.of_heap hh) own started (by kernel_rfl) Tryd.func5
    (ChangeSpec.witness_shaped (enc := enc) (C := Tryd.checked) (os := os) (X := fun w _ => laidMetH Tryd.prog Rows.zoneWidenRow.laid w) false (World.doorLaid Tryd.prog 168 os) #[.agg #[.int .i64 0, .slice none 0 0], .agg #[.int .i64 0, .slice none 0 0], .int .i64 0] 8 rfl (World.shaped_of_RefB (by kernel_rfl) (by kernel_rfl)) (by kernel_rfl) (by kernel_rfl) (by kernel_rfl) (door_met os _)) ?_
  intro W base args ds gs before hval0 hW _ hsz hL _
  have hval : ∀ (j : Nat) t v, Tryd.f5.params[j]? = some t → args[j]? = some v → Value.okWide Tryd.prog W .any base t v := hval0
  have hW' := hW
  obtain ⟨p, q, hA0, hV, rfl, hfz, hnd⟩ := hW
  have hA : DataW.TrodAll enc Tryd.prog W 0 (fun _ => true) true Tryd.f5.params.toList args.toList ds p := hA0
  rw [Tryd.params5] at hA hval
  obtain ⟨v0, vs0, d0, ds0, p0, q0, hargs, rfl, rfl, h0, r0⟩ := trodAll_cons hA
  obtain ⟨v1, vs1, d1, ds1, p1, q1, rfl, rfl, rfl, h1, r1⟩ := trodAll_cons r0
  obtain ⟨v2, vs2, d2, ds2, p2, q2, rfl, rfl, rfl, h2, r2⟩ := trodAll_cons r1
  obtain ⟨rfl, rfl, rfl⟩ := trodAll_nil r2
  obtain rfl : args = #[v0, v1, v2] := by cases args; simp_all
  obtain ⟨rfl, rfl⟩ := trodVars_none hV
  clear hA0 hval0
  have walk : Calls Tryd.prog 5 #[v0, v1, v2] W fun e w' => e = .returned (.bool true) ∧ Below W.heap.size W w' := by
    obtain ⟨N0, A0, c0, l0, rfl, wN0, hr0, hc0⟩ := open_zoneK Tryd.underlying24 (by kernel_rfl) (by kernel_rfl) Tryd.underlying3 Tryd.underlying22 Tryd.underlying67 (by kernel_rfl) rfl rfl (by kernel_rfl) (by kernel_rfl) Tryd.underlying4 Tryd.underlying3 (hval 0 24 v0 rfl rfl) h0
    obtain ⟨N1, A1, c1, l1, rfl, wN1, hr1, hc1⟩ := open_zoneK Tryd.underlying24 (by kernel_rfl) (by kernel_rfl) Tryd.underlying3 Tryd.underlying22 Tryd.underlying67 (by kernel_rfl) rfl rfl (by kernel_rfl) (by kernel_rfl) Tryd.underlying4 Tryd.underlying3 (hval 1 24 v1 rfl rfl) h1
    obtain ⟨x2, rfl, _, _, wx2⟩ := open_int Tryd.underlying3 (hval 2 3 v2 rfl rfl) h2
    obtain ⟨E, e9⟩ := errs9 hL rfl rfl rfl rfl rfl rfl rfl rfl rfl
    obtain ⟨k, hk⟩ := (pure_ZoneWiden N0 l0 N1 l1 x2).at
    exact @Go.Proofs.YtcalcnfppnbooaaDoor.Z.L2_ZoneWiden.calls E k N0 A0 c0 l0 N1 A1 c1 l1 x2 true W hr0 hc0 hr1 hc1 hk e9.e2 e9.e3 e9
  refine walk.mono fun e W' ⟨he, hb⟩ => ?_
  subst he
  exact ⟨_, rfl, law_post laidOut readable rfl rfl Tryd.underlying4 hW' rfl hb⟩

theorem said : Rows.ZoneWidenSaid :=
  OpenClaim.holds_of_wide 5 Tryd.f5 rfl rfl rfl rfl rfl rfl rfl ⟨rfl, rfl, rfl, rfl, rfl⟩ rfl rfl rfl rfl rfl (by kernel_rfl) Tryd.func5 (by kernel_rfl)
    (of_decide_eq_true (by kernel_rfl)) (by unfold Func.isWrapper; first | (rw [if_pos (by decide +kernel)]; kernel_rfl) | (rw [if_neg (by decide +kernel)]; exact ⟨rfl, rfl⟩))
    (fun os started H enc _ => lifted os started H enc)

theorem plain (f : FuncId) (fn : Func) (hf : Tryd.pinned.checked.prog.funcNamed "raycone/rayconelaw2.ZoneWiden" = some f) (hfn : Tryd.pinned.checked.prog.funcs[f]? = some fn) :
    true = Tryd.pinned.checked.prog.looks [] ∧ ∀ (j : Nat) t, fn.params[j]? = some t → Tryd.pinned.checked.prog.wantsStandIn t = false := by
  obtain rfl : f = 5 := Option.some.inj ((show Tryd.prog.funcNamed "raycone/rayconelaw2.ZoneWiden" = some 5 by kernel_rfl).symm.trans hf) |>.symm
  obtain rfl : fn = Tryd.f5 := (Option.some.inj (Tryd.func5.symm.trans hfn)).symm
  refine ⟨by kernel_rfl, fun j t ht => ?_⟩
  rw [Tryd.params5] at ht
  have hm : t ∈ [24, 24, 3] := by simpa using Array.mem_of_getElem? ht
  have hall : ([24, 24, 3].all fun u => !Tryd.prog.wantsStandIn u) = true := by kernel_rfl
  exact (show Tryd.prog.wantsStandIn t = false by simpa using List.all_eq_true.1 hall t hm)

theorem card : Rows.ZoneWidenCardSaid :=
  Claim7.holds_tied_plain_at .later [] _ _ _ _ said (fun _ h => by cases h) (by kernel_rfl) (fun _ h => by cases h) zoneWiden_row_tie rfl ⟨rfl, rfl⟩ (by kernel_rfl) rfl plain (by kernel_rfl)
#print axioms card
end Go.Proofs.YtcalcnfppnbooaaDoor.lawZoneWiden
