import Derived.RowKit
/- Plain law: bounds of differences: as a relation, as rows; FLOYD and WARSHALL; closed; with a bound more. No program. -/
namespace Go.Proofs.Rcn

/-- 'B i j v': the j-th less the i-th is at most v. -/
abbrev Bnd := Nat → Nat → Int → Prop

/-- Bounds over n places: what is above a bound is one; places below n. -/
structure Over (n : Nat) (B : Bnd) : Prop where
  up : ∀ i j v w, B i j v → v ≤ w → B i j w
  inn : ∀ i j v, B i j v → i < n ∧ j < n

/-- The sums along ways. -/
inductive Path (B : Bnd) : Nat → Nat → Int → Prop
  | one {i j v} : B i j v → Path B i j v
  | two {i k j u w v} : Path B i k u → Path B k j w → u + w ≤ v → Path B i j v

theorem Path.over {n B} (h : Over n B) : Over n (Path B) := by
  constructor
  · intro i j v w hp hv
    cases hp with
    | one b => exact .one (h.up _ _ _ _ b hv)
    | two p q hs => exact .two p q (by omega)
  · intro i j v hp
    induction hp with
    | one b => exact h.inn _ _ _ b
    | two _ _ _ ih1 ih2 => exact ⟨ih1.1, ih2.2⟩

theorem Path.mono {B C : Bnd} (h : ∀ i j v, B i j v → C i j v) {i j v} (p : Path B i j v) : Path C i j v := by
  induction p with
  | one b => exact .one (h _ _ _ b)
  | two _ _ hs ih1 ih2 => exact .two ih1 ih2 hs

/-- No way round is below 0. -/
def Fine (B : Bnd) : Prop := ∀ i v, Path B i i v → 0 ≤ v

/-- A point lies within all bounds. -/
def Sat (B : Bnd) (p : Nat → Int) : Prop := ∀ i j v, B i j v → p j - p i ≤ v

theorem Sat.path {B : Bnd} {p : Nat → Int} (h : Sat B p) : Sat (Path B) p := by
  intro i j v q
  induction q with
  | one b => exact h _ _ _ b
  | two _ _ hs ih1 ih2 => omega

theorem Sat.fine {B : Bnd} {p : Nat → Int} (h : Sat B p) : Fine B := by
  intro i v q
  have := h.path _ _ _ q
  omega

/-- Each place is itself. -/
def Refl (n : Nat) (B : Bnd) : Prop := ∀ i, i < n → B i i 0

theorem Fine.mono {B C : Bnd} (h : ∀ i j v, B i j v → C i j v) (hf : Fine C) : Fine B := fun i v p => hf i v (p.mono h)
end Go.Proofs.Rcn

namespace Go.Proofs.Rcn
open Go.RowKit (wrap64)

/-- A bound, if there is one. -/
structure Cel where (has : Bool) (most : Int) deriving DecidableEq

def cg (L : List Cel) (k : Nat) : Cel := L.getD k ⟨false, 0⟩
def leastC (c : Cel) (h : Bool) (m : Int) : Cel := if (h && (!c.has || decide (m < c.most))) = true then ⟨true, m⟩ else c
def leastL (L : List Cel) (k : Nat) (h : Bool) (m : Int) : List Cel := L.set k (leastC (cg L k) h m)

theorem leastL_length (L k h m) : (leastL L k h m).length = L.length := by simp [leastL]

/-! ### 1. The rounds -/
theorem idx_lt {n i j : Nat} (hi : i < n) (hj : j < n) : i * n + j < n * n := by
  have : (i + 1) * n ≤ n * n := Nat.mul_le_mul_right _ hi
  rw [Nat.add_mul] at this
  omega

/-! ### 2. No sum is too great: how many bounds at most are added up in a place -/
def ct (c : List Nat) (k : Nat) : Nat := c.getD k 0
def LeC (c d : List Nat) : Prop := c.length = d.length ∧ ∀ k, ct c k ≤ ct d k
theorem LeC.refl (c) : LeC c c := ⟨rfl, fun _ => Nat.le_refl _⟩
theorem LeC.trans {a b c} (h : LeC a b) (g : LeC b c) : LeC a c := ⟨h.1.trans g.1, fun k => Nat.le_trans (h.2 k) (g.2 k)⟩
/-! ### 3. The bounds as a relation -/
def Bd (n : Nat) (L : List Cel) : Bnd := fun i j v => i < n ∧ j < n ∧ (cg L (i * n + j)).has = true ∧ (cg L (i * n + j)).most ≤ v

theorem bd_over (n L) : Over n (Bd n L) := ⟨fun _ _ _ _ h hv => ⟨h.1, h.2.1, h.2.2.1, by have := h.2.2.2; omega⟩, fun _ _ _ h => ⟨h.1, h.2.1⟩⟩

/-- f is sound and lowers: it tells nothing but sums, and forgets nothing. -/
def Good (n : Nat) (f : List Cel → List Cel) : Prop := ∀ L, L.length = n * n → (f L).length = n * n ∧ (∀ i j v, Bd n L i j v → Bd n (f L) i j v) ∧ (∀ i j v, Bd n (f L) i j v → Path (Bd n L) i j v)

theorem Good.id {n} : Good n fun L => L := fun _ h => ⟨h, fun _ _ _ b => b, fun _ _ _ b => .one b⟩
end Go.Proofs.Rcn

namespace Go.Proofs.Rcn

/-- Where there is no bound its number is 0. -/
def Norm (L : List Cel) : Prop := ∀ k, (cg L k).has = false → (cg L k).most = 0

/-! ### What a run of the rounds comes to -/
/-- Closed: nothing is shorter than what is told; of one with itself 0. -/
structure Closed (n : Nat) (C : List Cel) : Prop where
  len : C.length = n * n
  norm : Norm C
  refl : Refl n (Bd n C)
  tri : ∀ i k j u w, Bd n C i k u → Bd n C k j w → Bd n C i j (u + w)
  fine : ∀ i v, Bd n C i i v → 0 ≤ v

theorem Closed.path {n : Nat} {C : List Cel} (h : Closed n C) {i j : Nat} {v : Int} (p : Path (Bd n C) i j v) : Bd n C i j v := by
  induction p with
  | one b => exact b
  | two _ _ hs ih1 ih2 => exact (bd_over n C).up _ _ _ _ (h.tri _ _ _ _ _ ih1 ih2) hs

theorem Closed.cell {n : Nat} {C : List Cel} (h : Closed n C) {i : Nat} (hi : i < n) : cg C (i * n + i) = ⟨true, 0⟩ := by
  have h1 := h.refl i hi
  have h2 := h.fine i (cg C (i * n + i)).most ⟨hi, hi, h1.2.2.1, Int.le_refl _⟩
  have h3 := h1.2.2.2
  have h4 := h1.2.2.1
  rcases hc : cg C (i * n + i) with ⟨a, x⟩
  rw [hc] at h2 h3 h4
  simp only at h2 h3 h4
  subst h4
  have : x = 0 := by omega
  rw [this]

/-! ### Clipping -/
/-! ### The whole -/
end Go.Proofs.Rcn

namespace Go.Proofs.Rcn
end Go.Proofs.Rcn
