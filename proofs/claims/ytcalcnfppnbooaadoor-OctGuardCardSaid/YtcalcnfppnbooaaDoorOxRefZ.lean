import Derived.Test.YtcalcnfppnbooaaDoorOxZones
/- Plain law: the reference's closing of a zone (sweeps) comes to the same row as the program's (FLOYD and WARSHALL). No program. -/
set_option linter.unusedVariables false
namespace Go.Proofs.Rcn
open Go.RowKit (wrap64)

def swJ (n i : Nat) (L : List Cel) (j : Nat) : List Cel := rep (fun M k => closeJ n k i M j) n L
def swI (n : Nat) (L : List Cel) (i : Nat) : List Cel := rep (swJ n i) n L
def sweep (n : Nat) (L : List Cel) : List Cel := rep (swI n) n L
def sweeps (n m : Nat) (L : List Cel) : List Cel := rep (fun M _ => sweep n M) m L
/-! ### no sum wrapped -/
def fswJ (n i : Nat) (L : List Cel) (j : Nat) : List Cel := rep (fun M k => freeJ n k i M j) n L
def cswJ (n i : Nat) (c : List Nat) (j : Nat) : List Nat := rep (fun d k => cntJ n k i d j) n c
theorem cswJ_le (n i c j) : LeC c (cswJ n i c j) := rep_le (fun d k => cntJ_le n k i d j) (Nat.zero_le n)
/-! ### what the sweeps tell -/
section
variable {n : Nat} {L : List Cel}
theorem leastL_no' {X : List Cel} {k : Nat} {h : Bool} {m : Int} (e : h = true → (cg X k).has = true ∧ (cg X k).most ≤ m) : leastL X k h m = X := by
  have : leastC (cg X k) h m = cg X k := by
    unfold leastC
    rw [if_neg]
    intro q
    simp only [Bool.and_eq_true, Bool.or_eq_true, Bool.not_eq_true', decide_eq_true_eq] at q
    have := e q.1
    rcases q.2 with q2 | q2
    · rw [this.1] at q2; cases q2
    · omega
  unfold leastL
  rw [this]
  apply List.ext_getElem (by simp)
  intro i h1 h2
  rw [List.getElem_set]
  split
  · rename_i hi; subst hi; simp [cg, List.getD_eq_getElem?_getD, List.getElem?_eq_getElem h2]
  · rfl
end
end Go.Proofs.Rcn
