import Derived.RowKit
/- Plain law: bounds of differences: as a relation, as rows; FLOYD and WARSHALL; closed; with a bound more. No program. -/
namespace Go.Proofs.Rcn

/-- 'B i j v': the j-th less the i-th is at most v. -/
abbrev Bnd := Nat → Nat → Int → Prop

/-- Bounds over n places: what is above a bound is one; places below n. -/
structure Over (n : Nat) (B : Bnd) : Prop where
  up : ∀ i j v w, B i j v → v ≤ w → B i j w
  inn : ∀ i j v, B i j v → i < n ∧ j < n

/-- The sums along ways. -/
inductive Path (B : Bnd) : Nat → Nat → Int → Prop
  | one {i j v} : B i j v → Path B i j v
  | two {i k j u w v} : Path B i k u → Path B k j w → u + w ≤ v → Path B i j v

theorem Path.over {n B} (h : Over n B) : Over n (Path B) := by
  constructor
  · intro i j v w hp hv
    cases hp with
    | one b => exact .one (h.up _ _ _ _ b hv)
    | two p q hs => exact .two p q (by omega)
  · intro i j v hp
    induction hp with
    | one b => exact h.inn _ _ _ b
    | two _ _ _ ih1 ih2 => exact ⟨ih1.1, ih2.2⟩

theorem Path.mono {B C : Bnd} (h : ∀ i j v, B i j v → C i j v) {i j v} (p : Path B i j v) : Path C i j v := by
  induction p with
  | one b => exact .one (h _ _ _ b)
  | two _ _ hs ih1 ih2 => exact .two ih1 ih2 hs

theorem Path.idem {B : Bnd} {i j v} (p : Path (Path B) i j v) : Path B i j v := by
  induction p with
  | one b => exact b
  | two _ _ hs ih1 ih2 => exact .two ih1 ih2 hs

/-- FLOYD and WARSHALL, a round each. -/
def fwR (B : Bnd) : Nat → Bnd
  | 0 => B
  | k + 1 => fun i j v => fwR B k i j v ∨ ∃ u w, fwR B k i k u ∧ fwR B k k j w ∧ u + w ≤ v

theorem fwR_over {n B} (h : Over n B) : ∀ k, Over n (fwR B k)
  | 0 => h
  | k + 1 => by
    have ih := fwR_over h k
    constructor
    · rintro i j v w (b | ⟨u, x, h1, h2, hs⟩) hv
      · exact .inl (ih.up _ _ _ _ b hv)
      · exact .inr ⟨u, x, h1, h2, by omega⟩
    · rintro i j v (b | ⟨u, x, h1, h2, hs⟩)
      · exact ih.inn _ _ _ b
      · exact ⟨(ih.inn _ _ _ h1).1, (ih.inn _ _ _ h2).2⟩

theorem fwR_path {B : Bnd} : ∀ k {i j v}, fwR B k i j v → Path B i j v
  | 0, _, _, _, h => .one h
  | k + 1, i, j, v, h => by
    rcases h with h | ⟨u, w, h1, h2, hs⟩
    · exact fwR_path k h
    · exact .two (fwR_path k h1) (fwR_path k h2) hs

theorem fwR_le {B : Bnd} {k m : Nat} (h : k ≤ m) {i j v} (b : fwR B k i j v) : fwR B m i j v := by
  induction h with
  | refl => exact b
  | step _ ih => exact .inl ih

/-- Where no way round is below 0, the way over any place that had its round is told. -/
theorem fwR_tri {n B} (h : Over n B) {k : Nat} (hd : ∀ i v, fwR B k i i v → 0 ≤ v) :
    ∀ m, m < k → ∀ i j u w, fwR B k i m u → fwR B k m j w → fwR B k i j (u + w) := by
  induction k with
  | zero => intro m hm; omega
  | succ k ih =>
    have ov := fwR_over h k
    have hd' : ∀ i v, fwR B k i i v → 0 ≤ v := fun i v b => hd i v (.inl b)
    intro m hm i j u w h1 h2
    by_cases hmk : m = k
    · subst hmk
      have c1 : fwR B m i m u := by
        rcases h1 with h1 | ⟨a, b, h3, h4, hs⟩
        · exact h1
        · have := hd' _ _ h4
          exact ov.up _ _ _ _ h3 (by omega)
      have c2 : fwR B m m j w := by
        rcases h2 with h2 | ⟨a, b, h3, h4, hs⟩
        · exact h2
        · have := hd' _ _ h3
          exact ov.up _ _ _ _ h4 (by omega)
      exact .inr ⟨u, w, c1, c2, by omega⟩
    · have hmk' : m < k := by omega
      have T := ih hd' m hmk'
      rcases h1 with h1 | ⟨a, b, h3, h4, hs⟩
      · rcases h2 with h2 | ⟨c, d, h5, h6, hs'⟩
        · exact .inl (T _ _ _ _ h1 h2)
        · exact .inr ⟨u + c, d, T _ _ _ _ h1 h5, h6, by omega⟩
      · rcases h2 with h2 | ⟨c, d, h5, h6, hs'⟩
        · exact .inr ⟨a, b + w, h3, T _ _ _ _ h4 h2, by omega⟩
        · have h7 := hd' _ _ (T _ _ _ _ h4 h5)
          exact .inr ⟨a, d, h3, h6, by omega⟩

/-- Between the rounds and the ways: where nothing round is below 0, it is the ways. -/
theorem between {n : Nat} {B R : Bnd} (h : Over n B) (hlo : ∀ i j v, fwR B n i j v → R i j v)
    (hd : ∀ i v, R i i v → 0 ≤ v) {i j v} (p : Path B i j v) : R i j v := by
  have hd' : ∀ i v, fwR B n i i v → 0 ≤ v := fun i v b => hd i v (hlo _ _ _ b)
  have T := fwR_tri h hd'
  have ov := fwR_over h n
  have key : fwR B n i j v := by
    induction p with
    | one b => exact fwR_le (Nat.zero_le n) b
    | two p q hs ih1 ih2 =>
      have hk := ((Path.over h).inn _ _ _ p).2
      exact ov.up _ _ _ _ (T _ hk _ _ _ _ ih1 ih2) hs
  exact hlo _ _ _ key

/-- No way round is below 0. -/
def Fine (B : Bnd) : Prop := ∀ i v, Path B i i v → 0 ≤ v

theorem fine_of {n : Nat} {B R : Bnd} (h : Over n B) (hlo : ∀ i j v, fwR B n i j v → R i j v)
    (hd : ∀ i v, R i i v → 0 ≤ v) : Fine B := fun i v p => hd i v (between h hlo hd p)

/-- A point lies within all bounds. -/
def Sat (B : Bnd) (p : Nat → Int) : Prop := ∀ i j v, B i j v → p j - p i ≤ v

theorem Sat.path {B : Bnd} {p : Nat → Int} (h : Sat B p) : Sat (Path B) p := by
  intro i j v q
  induction q with
  | one b => exact h _ _ _ b
  | two _ _ hs ih1 ih2 => omega

theorem Sat.fine {B : Bnd} {p : Nat → Int} (h : Sat B p) : Fine B := by
  intro i v q
  have := h.path _ _ _ q
  omega

/-- Each place is itself. -/
def Refl (n : Nat) (B : Bnd) : Prop := ∀ i, i < n → B i i 0

theorem Fine.mono {B C : Bnd} (h : ∀ i j v, B i j v → C i j v) (hf : Fine C) : Fine B := fun i v p => hf i v (p.mono h)
end Go.Proofs.Rcn

namespace Go.Proofs.Rcn
open Go.RowKit (wrap64)

/-- A bound, if there is one. -/
structure Cel where (has : Bool) (most : Int) deriving DecidableEq

def cg (L : List Cel) (k : Nat) : Cel := L.getD k ⟨false, 0⟩
def leastC (c : Cel) (h : Bool) (m : Int) : Cel := if (h && (!c.has || decide (m < c.most))) = true then ⟨true, m⟩ else c
def leastL (L : List Cel) (k : Nat) (h : Bool) (m : Int) : List Cel := L.set k (leastC (cg L k) h m)

/-- So many rounds. -/
def rep {α : Type} (f : α → Nat → α) : Nat → α → α
  | 0, x => x
  | k + 1, x => f (rep f k x) k

theorem rep_succ {α : Type} (f : α → Nat → α) (k : Nat) (x : α) : rep f (k + 1) x = f (rep f k x) k := rfl

/-- What each round keeps, all keep. -/
theorem rep_ind {α : Type} {f : α → Nat → α} {P : α → Prop} {n : Nat} (h : ∀ x k, k < n → P x → P (f x k)) {x : α} (hx : P x) : ∀ k, k ≤ n → P (rep f k x)
  | 0, _ => hx
  | k + 1, hk => h _ _ (by omega) (rep_ind h hx k (by omega))

theorem cg_set (L : List Cel) (k m : Nat) (c : Cel) : cg (L.set k c) m = if k = m ∧ k < L.length then c else cg L m := by
  unfold cg
  rw [List.getD_eq_getElem?_getD, List.getD_eq_getElem?_getD, List.getElem?_set]
  by_cases h : k = m
  · subst h
    by_cases hk : k < L.length
    · simp [hk]
    · simp [hk]
  · simp [h]

theorem leastL_length (L k h m) : (leastL L k h m).length = L.length := by simp [leastL]

theorem cg_least (L : List Cel) {k : Nat} (hk : k < L.length) (h m x) : cg (leastL L k h m) x = if x = k then leastC (cg L k) h m else cg L x := by
  unfold leastL
  rw [cg_set]
  by_cases e : k = x
  · subst e; simp [hk]
  · have : ¬ x = k := fun h => e h.symm
    simp [e, this]

theorem list_ext {L M : List Cel} (hl : L.length = M.length) (h : ∀ k, k < L.length → cg L k = cg M k) : L = M := by
  apply List.ext_getElem hl
  intro k h1 h2
  have := h k h1
  simpa [cg, List.getD_eq_getElem?_getD, List.getElem?_eq_getElem h1, List.getElem?_eq_getElem h2] using this

/-! ### 1. The rounds -/
def closeD (n : Nat) (L : List Cel) (i : Nat) : List Cel := leastL L (i * n + i) true 0
def closeJ (n k i : Nat) (L : List Cel) (j : Nat) : List Cel :=
  leastL L (i * n + j) ((cg L (i * n + k)).has && (cg L (k * n + j)).has) (wrap64 ((cg L (i * n + k)).most + (cg L (k * n + j)).most))
def closeI (n k : Nat) (L : List Cel) (i : Nat) : List Cel := rep (closeJ n k i) n L
def closeK (n : Nat) (L : List Cel) (k : Nat) : List Cel := rep (closeI n k) n L
def preClose (n : Nat) (L : List Cel) : List Cel := rep (closeK n) n (rep (closeD n) n L)
def okAt (n : Nat) (L : List Cel) (i : Nat) : Bool := !decide ((cg L (i * n + i)).most < 0)
def okL (n : Nat) (L : List Cel) : Bool := (List.range n).all (okAt n L)
def clipC (c : Cel) : Cel := if c.most > 1099511627776 then ⟨false, 0⟩ else if c.most < -1099511627776 then ⟨c.has, -1099511627776⟩ else c
def closeZ (n : Nat) (L : List Cel) : Option (List Cel) := if okL n (preClose n L) = true then some ((preClose n L).map clipC) else none

/-- The same, no sum wrapped. -/
def freeJ (n k i : Nat) (L : List Cel) (j : Nat) : List Cel :=
  leastL L (i * n + j) ((cg L (i * n + k)).has && (cg L (k * n + j)).has) ((cg L (i * n + k)).most + (cg L (k * n + j)).most)
theorem idx_lt {n i j : Nat} (hi : i < n) (hj : j < n) : i * n + j < n * n := by
  have : (i + 1) * n ≤ n * n := Nat.mul_le_mul_right _ hi
  rw [Nat.add_mul] at this
  omega

theorem idx_inj {n i j a b : Nat} (hj : j < n) (hb : b < n) (h : i * n + j = a * n + b) : i = a ∧ j = b := by
  have h1 : (i * n + j) / n = (a * n + b) / n := by rw [h]
  have h2 : (i * n + j) % n = (a * n + b) % n := by rw [h]
  rw [Nat.mul_comm i n, Nat.mul_comm a n] at h1 h2
  rw [Nat.mul_add_div (by omega), Nat.mul_add_div (by omega), Nat.div_eq_of_lt hj, Nat.div_eq_of_lt hb] at h1
  rw [Nat.mul_add_mod, Nat.mul_add_mod, Nat.mod_eq_of_lt hj, Nat.mod_eq_of_lt hb] at h2
  omega

/-! ### 2. No sum is too great: how many bounds at most are added up in a place -/
def ct (c : List Nat) (k : Nat) : Nat := c.getD k 0
def cntJ (n k i : Nat) (c : List Nat) (j : Nat) : List Nat := c.set (i * n + j) (max (ct c (i * n + j)) (ct c (i * n + k) + ct c (k * n + j)))
theorem ct_set (c : List Nat) (k m v : Nat) : ct (c.set k v) m = if k = m ∧ k < c.length then v else ct c m := by
  unfold ct
  rw [List.getD_eq_getElem?_getD, List.getD_eq_getElem?_getD, List.getElem?_set]
  by_cases h : k = m
  · subst h
    by_cases hk : k < c.length
    · simp [hk]
    · simp [hk]
  · simp [h]

def LeC (c d : List Nat) : Prop := c.length = d.length ∧ ∀ k, ct c k ≤ ct d k
theorem LeC.refl (c) : LeC c c := ⟨rfl, fun _ => Nat.le_refl _⟩
theorem LeC.trans {a b c} (h : LeC a b) (g : LeC b c) : LeC a c := ⟨h.1.trans g.1, fun k => Nat.le_trans (h.2 k) (g.2 k)⟩
theorem cntJ_le (n k i c j) : LeC c (cntJ n k i c j) := by
  refine ⟨by simp [cntJ], fun m => ?_⟩
  unfold cntJ
  rw [ct_set]
  split
  · rename_i h; rw [← h.1]; omega
  · exact Nat.le_refl _

theorem rep_le {f : List Nat → Nat → List Nat} (h : ∀ c k, LeC c (f c k)) {c : List Nat} {k m : Nat} (hk : k ≤ m) : LeC (rep f k c) (rep f m c) := by
  induction hk with
  | refl => exact LeC.refl _
  | step _ ih => exact ih.trans (h _ _)
/-- All bounds of L are within b times the counts. -/
def Within (b : Nat) (c : List Nat) (L : List Cel) : Prop := ∀ k, (cg L k).most ≤ b * ct c k ∧ -((b * ct c k : Nat) : Int) ≤ (cg L k).most

theorem leastC_most (c h m) : (leastC c h m).most = m ∨ (leastC c h m).most = c.most := by
  unfold leastC
  split <;> simp

theorem step_within {n k i j b M : Nat} {c : List Nat} {L : List Cel} (hL : L.length = n * n) (hc : c.length = n * n) (hi : i < n) (hj : j < n)
    (h : Within b c L) (hM : ∀ m, ct (cntJ n k i c j) m ≤ M) (hb : b * M ≤ 9223372036854775807) :
    closeJ n k i L j = freeJ n k i L j ∧ Within b (cntJ n k i c j) (freeJ n k i L j) := by
  have e1 : ct (cntJ n k i c j) (i * n + j) = max (ct c (i * n + j)) (ct c (i * n + k) + ct c (k * n + j)) := by
    unfold cntJ
    rw [ct_set, if_pos ⟨rfl, by rw [hc]; exact idx_lt hi hj⟩]
  have h1 := h (i * n + k)
  have h2 := h (k * n + j)
  have hs : b * (ct c (i * n + k) + ct c (k * n + j)) ≤ b * ct (cntJ n k i c j) (i * n + j) := Nat.mul_le_mul_left _ (by omega)
  have hs2 : b * ct (cntJ n k i c j) (i * n + j) ≤ b * M := Nat.mul_le_mul_left _ (hM _)
  rw [Nat.mul_add] at hs
  have hw : wrap64 ((cg L (i * n + k)).most + (cg L (k * n + j)).most) = (cg L (i * n + k)).most + (cg L (k * n + j)).most := by
    unfold wrap64
    omega
  refine ⟨by unfold closeJ freeJ; rw [hw], fun m => ?_⟩
  unfold freeJ
  rw [cg_least L (by rw [hL]; exact idx_lt hi hj)]
  by_cases e : m = i * n + j
  · subst e
    rw [if_pos rfl]
    rcases leastC_most (cg L (i * n + j)) ((cg L (i * n + k)).has && (cg L (k * n + j)).has) ((cg L (i * n + k)).most + (cg L (k * n + j)).most) with h3 | h3
    · rw [h3]; omega
    · rw [h3]
      have := h (i * n + j)
      have h4 : b * ct c (i * n + j) ≤ b * ct (cntJ n k i c j) (i * n + j) := Nat.mul_le_mul_left _ (by omega)
      omega
  · rw [if_neg e]
    have := h m
    have h4 : b * ct c m ≤ b * ct (cntJ n k i c j) m := Nat.mul_le_mul_left _ ((cntJ_le n k i c j).2 m)
    omega

/-- f, wrapped, does what g, not wrapped, does, and q counts it. -/
def Sim (b M N n : Nat) (f g : List Cel → Nat → List Cel) (q : List Nat → Nat → List Nat) : Prop :=
  ∀ L c x, x < n → L.length = N → c.length = N → Within b c L → (∀ m, ct (q c x) m ≤ M) → f L x = g L x ∧ (g L x).length = N ∧ Within b (q c x) (g L x)

theorem Sim.rep {b M N n : Nat} {f g q} (h : Sim b M N n f g q) (hq : ∀ c x, LeC c (q c x)) {L : List Cel} {c : List Nat} (hL : L.length = N) (hc : c.length = N) (hw : Within b c L) (k : Nat) (hk : k ≤ n)
    (hM : ∀ m, ct (rep q k c) m ≤ M) : Rcn.rep f k L = Rcn.rep g k L ∧ (Rcn.rep g k L).length = N ∧ Within b (Rcn.rep q k c) (Rcn.rep g k L) := by
  induction k with
  | zero => exact ⟨rfl, hL, hw⟩
  | succ k ih =>
    obtain ⟨h1, h2, h3⟩ := ih (by omega) (fun m => Nat.le_trans ((rep_le hq (Nat.le_succ k)).2 m) (hM m))
    simp only [rep_succ]
    rw [h1]
    exact h _ _ _ (by omega) h2 ((rep_le hq (Nat.zero_le k)).1.symm.trans hc) h3 hM

theorem free_length (n k i L j) : (freeJ n k i L j).length = L.length := leastL_length ..

theorem ct_replicate (N m : Nat) : ct (List.replicate N 1) m = if m < N then 1 else 0 := by
  unfold ct
  rw [List.getD_eq_getElem?_getD, List.getElem?_replicate]
  split <;> simp

/-- All bounds are at most b in size. -/
def Near (b : Nat) (L : List Cel) : Prop := ∀ k, (cg L k).most ≤ b ∧ -(b : Int) ≤ (cg L k).most

theorem cg_out {L : List Cel} {k : Nat} (h : L.length ≤ k) : cg L k = ⟨false, 0⟩ := by
  simp [cg, List.getD_eq_getElem?_getD, List.getElem?_eq_none h]

theorem near_least {b : Nat} {L : List Cel} (h : Near b L) {k : Nat} {has : Bool} {m : Int} (hm : has = true → m ≤ b ∧ -(b : Int) ≤ m) : Near b (leastL L k has m) := by
  intro x
  unfold leastL
  rw [cg_set]
  split
  · unfold leastC
    split
    · rename_i h2
      simp only [Bool.and_eq_true] at h2
      exact hm h2.1
    · exact h k
  · exact h x

theorem closeD_length (n L i) : (closeD n L i).length = L.length := leastL_length ..
theorem rep_length {f : List Cel → Nat → List Cel} (h : ∀ L k, (f L k).length = L.length) : ∀ k L, (rep f k L).length = L.length
  | 0, _ => rfl
  | k + 1, L => by rw [rep_succ, h, rep_length h k]

theorem ct_le_of {c : List Nat} {M : Nat} (h : c.all (fun v => decide (v ≤ M)) = true) (m : Nat) : ct c m ≤ M := by
  unfold ct
  rw [List.getD_eq_getElem?_getD]
  rcases Nat.lt_or_ge m c.length with hm | hm
  · rw [List.getElem?_eq_getElem hm]
    have := List.all_eq_true.1 h _ (List.getElem_mem hm)
    simpa using this
  · rw [List.getElem?_eq_none hm]
    simp

/-! ### 3. The bounds as a relation -/
def Bd (n : Nat) (L : List Cel) : Bnd := fun i j v => i < n ∧ j < n ∧ (cg L (i * n + j)).has = true ∧ (cg L (i * n + j)).most ≤ v

theorem bd_over (n L) : Over n (Bd n L) := ⟨fun _ _ _ _ h hv => ⟨h.1, h.2.1, h.2.2.1, by have := h.2.2.2; omega⟩, fun _ _ _ h => ⟨h.1, h.2.1⟩⟩

theorem bd_least {n : Nat} {L : List Cel} (hL : L.length = n * n) {a b : Nat} (ha : a < n) (hb : b < n) (h : Bool) (m : Int) (i j : Nat) (v : Int) :
    Bd n (leastL L (a * n + b) h m) i j v ↔ Bd n L i j v ∨ (h = true ∧ i = a ∧ j = b ∧ m ≤ v) := by
  unfold Bd
  rw [cg_least L (by rw [hL]; exact idx_lt ha hb)]
  by_cases e : i = a ∧ j = b
  · obtain ⟨rfl, rfl⟩ := e
    rw [if_pos rfl]
    unfold leastC
    cases h <;> cases hc : (cg L (i * n + j)).has <;> simp [hc, ha, hb]
    split
    · rename_i h2
      constructor
      · intro h; exact .inr h.2
      · rintro (h | h)
        · exact ⟨rfl, by simp; omega⟩
        · exact ⟨rfl, h⟩
    · rename_i h2
      constructor
      · intro h; exact .inl h.2
      · rintro (h | h)
        · exact ⟨hc, h⟩
        · exact ⟨hc, by omega⟩
  · by_cases hij : i < n ∧ j < n
    · have e' : ¬ i * n + j = a * n + b := fun h => e (idx_inj hij.2 hb h)
      rw [if_neg e']
      constructor
      · intro h; exact .inl h
      · rintro (h | ⟨_, rfl, rfl, _⟩)
        · exact h
        · exact absurd ⟨rfl, rfl⟩ e
    · constructor
      · intro h; exact absurd ⟨h.1, h.2.1⟩ hij
      · rintro (h | ⟨_, rfl, rfl, _⟩)
        · exact absurd ⟨h.1, h.2.1⟩ hij
        · exact absurd ⟨rfl, rfl⟩ e

/-- f is sound and lowers: it tells nothing but sums, and forgets nothing. -/
def Good (n : Nat) (f : List Cel → List Cel) : Prop := ∀ L, L.length = n * n → (f L).length = n * n ∧ (∀ i j v, Bd n L i j v → Bd n (f L) i j v) ∧ (∀ i j v, Bd n (f L) i j v → Path (Bd n L) i j v)

theorem Good.id {n} : Good n fun L => L := fun _ h => ⟨h, fun _ _ _ b => b, fun _ _ _ b => .one b⟩
theorem Good.comp {n f g} (hf : Good n f) (hg : Good n g) : Good n fun L => g (f L) := by
  intro L hL
  obtain ⟨a1, a2, a3⟩ := hf L hL
  obtain ⟨b1, b2, b3⟩ := hg _ a1
  exact ⟨b1, fun i j v h => b2 _ _ _ (a2 _ _ _ h), fun i j v h => ((b3 _ _ _ h).mono a3).idem⟩
theorem Good.rep {n m : Nat} {f : List Cel → Nat → List Cel} (h : ∀ x, x < m → Good n fun L => f L x) : ∀ k, k ≤ m → Good n (Rcn.rep f k)
  | 0, _ => Good.id
  | k + 1, hk => (Good.rep h k (by omega)).comp (h k (by omega))

theorem J_tells {n k i j : Nat} (hi : i < n) (hj : j < n) {L : List Cel} (hL : L.length = n * n) {u w v : Int} (h1 : Bd n L i k u) (h2 : Bd n L k j w) (hv : u + w ≤ v) : Bd n (freeJ n k i L j) i j v := by
  refine (bd_least hL hi hj _ _ i j v).2 (.inr ⟨by simp [h1.2.2.1, h2.2.2.1], rfl, rfl, ?_⟩)
  have := h1.2.2.2
  have := h2.2.2.2
  omega

end Go.Proofs.Rcn

namespace Go.Proofs.Rcn

def diag (n : Nat) (L : List Cel) : List Cel := rep (closeD n) n L
/-- Where there is no bound its number is 0. -/
def Norm (L : List Cel) : Prop := ∀ k, (cg L k).has = false → (cg L k).most = 0

theorem norm_least {L : List Cel} (h : Norm L) (k : Nat) (has : Bool) (m : Int) : Norm (leastL L k has m) := by
  intro x
  unfold leastL
  rw [cg_set]
  split
  · unfold leastC
    split
    · simp
    · exact h k
  · exact h x

theorem norm_rep {f : List Cel → Nat → List Cel} (h : ∀ L k, Norm L → Norm (f L k)) {L : List Cel} (hL : Norm L) (k : Nat) : Norm (rep f k L) :=
  rep_ind (n := k) (fun L k _ hL => h L k hL) hL k (Nat.le_refl _)

theorem norm_diag {n : Nat} {L : List Cel} (h : Norm L) : Norm (diag n L) := norm_rep (fun _ _ h => norm_least h _ _ _) h n
theorem diag_length (n L) : (diag n L).length = L.length := rep_length (closeD_length n) n L

theorem bd_diag {n : Nat} {L : List Cel} (hL : L.length = n * n) (i j : Nat) (v : Int) : Bd n (diag n L) i j v ↔ Bd n L i j v ∨ (i = j ∧ i < n ∧ 0 ≤ v) := by
  have key : ∀ k, k ≤ n → (Bd n (rep (closeD n) k L) i j v ↔ Bd n L i j v ∨ (i = j ∧ i < k ∧ 0 ≤ v)) := by
    intro k
    induction k with
    | zero => intro _; simp [rep]
    | succ k ih =>
      intro hk
      rw [rep_succ, show closeD n (rep (closeD n) k L) k = leastL (rep (closeD n) k L) (k * n + k) true 0 from rfl,
        bd_least (by rw [rep_length (closeD_length n), hL]) (by omega) (by omega), ih (by omega)]
      constructor
      · rintro ((h | ⟨rfl, h1, h2⟩) | ⟨_, rfl, rfl, h⟩)
        · exact .inl h
        · exact .inr ⟨rfl, by omega, h2⟩
        · exact .inr ⟨rfl, by omega, h⟩
      · rintro (h | ⟨rfl, h1, h2⟩)
        · exact .inl (.inl h)
        · rcases Nat.lt_or_ge i k with h3 | h3
          · exact .inl (.inr ⟨rfl, h3, h2⟩)
          · have : i = k := by omega
            exact .inr ⟨rfl, this, this, h2⟩
  exact key n (Nat.le_refl _)

/-- Two rows with the same bounds are the same. -/
theorem eq_of_bd {n : Nat} {L M : List Cel} (hL : L.length = n * n) (hM : M.length = n * n) (nL : Norm L) (nM : Norm M) (h : ∀ i j v, Bd n L i j v ↔ Bd n M i j v) : L = M := by
  refine list_ext (hL.trans hM.symm) fun k hk => ?_
  rw [hL] at hk
  have hn : 0 < n := by
    rcases Nat.eq_zero_or_pos n with h | h
    · subst h; omega
    · exact h
  have hi : k / n < n := (Nat.div_lt_iff_lt_mul hn).2 hk
  have hj : k % n < n := Nat.mod_lt _ hn
  have e : k / n * n + k % n = k := by rw [Nat.mul_comm]; exact Nat.div_add_mod k n
  have H := fun v => h (k / n) (k % n) v
  unfold Bd at H
  simp only [e, hi, hj, true_and] at H
  have nl := nL k
  have nm := nM k
  rcases hc : cg L k with ⟨a, x⟩
  rcases hd : cg M k with ⟨b, y⟩
  rw [hc, hd] at H
  rw [hc] at nl
  rw [hd] at nm
  simp only at H nl nm
  cases a <;> cases b
  · simp [nl rfl, nm rfl]
  · exact absurd ((H y).2 ⟨rfl, Int.le_refl _⟩).1 (by simp)
  · exact absurd ((H x).1 ⟨rfl, Int.le_refl _⟩).1 (by simp)
  · have h1 := ((H x).1 ⟨rfl, Int.le_refl _⟩).2
    have h2 := ((H y).2 ⟨rfl, Int.le_refl _⟩).2
    have : x = y := by omega
    simp [this]

/-! ### What a run of the rounds comes to -/
theorem okL_iff {n : Nat} {L : List Cel} : okL n L = true ↔ ∀ i, i < n → 0 ≤ (cg L (i * n + i)).most := by
  unfold okL okAt
  simp only [List.all_eq_true, List.mem_range, Bool.not_eq_true', decide_eq_false_iff_not, Int.not_lt]

/-- Closed: nothing is shorter than what is told; of one with itself 0. -/
structure Closed (n : Nat) (C : List Cel) : Prop where
  len : C.length = n * n
  norm : Norm C
  refl : Refl n (Bd n C)
  tri : ∀ i k j u w, Bd n C i k u → Bd n C k j w → Bd n C i j (u + w)
  fine : ∀ i v, Bd n C i i v → 0 ≤ v

theorem Closed.path {n : Nat} {C : List Cel} (h : Closed n C) {i j : Nat} {v : Int} (p : Path (Bd n C) i j v) : Bd n C i j v := by
  induction p with
  | one b => exact b
  | two _ _ hs ih1 ih2 => exact (bd_over n C).up _ _ _ _ (h.tri _ _ _ _ _ ih1 ih2) hs

theorem Closed.cell {n : Nat} {C : List Cel} (h : Closed n C) {i : Nat} (hi : i < n) : cg C (i * n + i) = ⟨true, 0⟩ := by
  have h1 := h.refl i hi
  have h2 := h.fine i (cg C (i * n + i)).most ⟨hi, hi, h1.2.2.1, Int.le_refl _⟩
  have h3 := h1.2.2.2
  have h4 := h1.2.2.1
  rcases hc : cg C (i * n + i) with ⟨a, x⟩
  rw [hc] at h2 h3 h4
  simp only at h2 h3 h4
  subst h4
  have : x = 0 := by omega
  rw [this]

/-! ### Clipping -/
theorem cg_clip (L : List Cel) (k : Nat) : cg (L.map clipC) k = clipC (cg L k) := by
  rcases Nat.lt_or_ge k L.length with h | h
  · simp [cg, List.getD_eq_getElem?_getD, List.getElem?_eq_getElem h]
  · rw [cg_out (by simpa using h), cg_out h]
    rfl
theorem bd_clip {n : Nat} {L : List Cel} {i j : Nat} {v : Int} (h : Bd n (L.map clipC) i j v) : Bd n L i j v := by
  unfold Bd at h ⊢
  rw [cg_clip] at h
  refine ⟨h.1, h.2.1, ?_⟩
  have h2 := h.2.2
  unfold clipC at h2
  split at h2
  · simp at h2
  · split at h2
    · simp only at h2
      exact ⟨h2.1, by omega⟩
    · exact h2
theorem norm_clip {L : List Cel} (h : Norm L) : Norm (L.map clipC) := by
  intro k
  rw [cg_clip]
  have := h k
  unfold clipC
  split
  · simp
  · split
    · intro h1
      have := this h1
      omega
    · exact this
theorem near_clip (L : List Cel) : Near 1099511627776 (L.map clipC) := by
  intro k
  rw [cg_clip]
  unfold clipC
  split
  · simp
  · split
    · simp
    · omega

/-! ### The whole -/
theorem near_mono {a b : Nat} {L : List Cel} (h : Near a L) (hab : a ≤ b) : Near b L := fun k => by have := h k; omega

end Go.Proofs.Rcn

namespace Go.Proofs.Rcn
end Go.Proofs.Rcn
