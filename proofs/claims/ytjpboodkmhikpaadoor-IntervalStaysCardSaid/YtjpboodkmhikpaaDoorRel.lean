/- Plain law: bounds of differences, as a relation; what a run of FLOYD and WARSHALL between two sets of bounds comes to. No program. -/
namespace Go.Proofs.Rcn

/-- 'B i j v': the j-th less the i-th is at most v. -/
abbrev Bnd := Nat → Nat → Int → Prop

/-- Bounds over n places: what is above a bound is one; places below n. -/
structure Over (n : Nat) (B : Bnd) : Prop where
  up : ∀ i j v w, B i j v → v ≤ w → B i j w
  inn : ∀ i j v, B i j v → i < n ∧ j < n

/-- The sums along ways. -/
inductive Path (B : Bnd) : Nat → Nat → Int → Prop
  | one {i j v} : B i j v → Path B i j v
  | two {i k j u w v} : Path B i k u → Path B k j w → u + w ≤ v → Path B i j v

theorem Path.over {n B} (h : Over n B) : Over n (Path B) := by
  constructor
  · intro i j v w hp hv
    cases hp with
    | one b => exact .one (h.up _ _ _ _ b hv)
    | two p q hs => exact .two p q (by omega)
  · intro i j v hp
    induction hp with
    | one b => exact h.inn _ _ _ b
    | two _ _ _ ih1 ih2 => exact ⟨ih1.1, ih2.2⟩

theorem Path.mono {B C : Bnd} (h : ∀ i j v, B i j v → C i j v) {i j v} (p : Path B i j v) : Path C i j v := by
  induction p with
  | one b => exact .one (h _ _ _ b)
  | two _ _ hs ih1 ih2 => exact .two ih1 ih2 hs

theorem Path.idem {B : Bnd} {i j v} (p : Path (Path B) i j v) : Path B i j v := by
  induction p with
  | one b => exact b
  | two _ _ hs ih1 ih2 => exact .two ih1 ih2 hs

/-- FLOYD and WARSHALL, a round each. -/
def fwR (B : Bnd) : Nat → Bnd
  | 0 => B
  | k + 1 => fun i j v => fwR B k i j v ∨ ∃ u w, fwR B k i k u ∧ fwR B k k j w ∧ u + w ≤ v

theorem fwR_over {n B} (h : Over n B) : ∀ k, Over n (fwR B k)
  | 0 => h
  | k + 1 => by
    have ih := fwR_over h k
    constructor
    · rintro i j v w (b | ⟨u, x, h1, h2, hs⟩) hv
      · exact .inl (ih.up _ _ _ _ b hv)
      · exact .inr ⟨u, x, h1, h2, by omega⟩
    · rintro i j v (b | ⟨u, x, h1, h2, hs⟩)
      · exact ih.inn _ _ _ b
      · exact ⟨(ih.inn _ _ _ h1).1, (ih.inn _ _ _ h2).2⟩

theorem fwR_path {B : Bnd} : ∀ k {i j v}, fwR B k i j v → Path B i j v
  | 0, _, _, _, h => .one h
  | k + 1, i, j, v, h => by
    rcases h with h | ⟨u, w, h1, h2, hs⟩
    · exact fwR_path k h
    · exact .two (fwR_path k h1) (fwR_path k h2) hs

theorem fwR_le {B : Bnd} {k m : Nat} (h : k ≤ m) {i j v} (b : fwR B k i j v) : fwR B m i j v := by
  induction h with
  | refl => exact b
  | step _ ih => exact .inl ih

/-- Where no way round is below 0, the way over any place that had its round is told. -/
theorem fwR_tri {n B} (h : Over n B) {k : Nat} (hd : ∀ i v, fwR B k i i v → 0 ≤ v) :
    ∀ m, m < k → ∀ i j u w, fwR B k i m u → fwR B k m j w → fwR B k i j (u + w) := by
  induction k with
  | zero => intro m hm; omega
  | succ k ih =>
    have ov := fwR_over h k
    have hd' : ∀ i v, fwR B k i i v → 0 ≤ v := fun i v b => hd i v (.inl b)
    intro m hm i j u w h1 h2
    by_cases hmk : m = k
    · subst hmk
      have c1 : fwR B m i m u := by
        rcases h1 with h1 | ⟨a, b, h3, h4, hs⟩
        · exact h1
        · have := hd' _ _ h4
          exact ov.up _ _ _ _ h3 (by omega)
      have c2 : fwR B m m j w := by
        rcases h2 with h2 | ⟨a, b, h3, h4, hs⟩
        · exact h2
        · have := hd' _ _ h3
          exact ov.up _ _ _ _ h4 (by omega)
      exact .inr ⟨u, w, c1, c2, by omega⟩
    · have hmk' : m < k := by omega
      have T := ih hd' m hmk'
      rcases h1 with h1 | ⟨a, b, h3, h4, hs⟩
      · rcases h2 with h2 | ⟨c, d, h5, h6, hs'⟩
        · exact .inl (T _ _ _ _ h1 h2)
        · exact .inr ⟨u + c, d, T _ _ _ _ h1 h5, h6, by omega⟩
      · rcases h2 with h2 | ⟨c, d, h5, h6, hs'⟩
        · exact .inr ⟨a, b + w, h3, T _ _ _ _ h4 h2, by omega⟩
        · have h7 := hd' _ _ (T _ _ _ _ h4 h5)
          exact .inr ⟨a, d, h3, h6, by omega⟩

/-- Between the rounds and the ways: where nothing round is below 0, it is the ways. -/
theorem between {n : Nat} {B R : Bnd} (h : Over n B) (hlo : ∀ i j v, fwR B n i j v → R i j v)
    (hd : ∀ i v, R i i v → 0 ≤ v) {i j v} (p : Path B i j v) : R i j v := by
  have hd' : ∀ i v, fwR B n i i v → 0 ≤ v := fun i v b => hd i v (hlo _ _ _ b)
  have T := fwR_tri h hd'
  have ov := fwR_over h n
  have key : fwR B n i j v := by
    induction p with
    | one b => exact fwR_le (Nat.zero_le n) b
    | two p q hs ih1 ih2 =>
      have hk := ((Path.over h).inn _ _ _ p).2
      exact ov.up _ _ _ _ (T _ hk _ _ _ _ ih1 ih2) hs
  exact hlo _ _ _ key

/-- No way round is below 0. -/
def Fine (B : Bnd) : Prop := ∀ i v, Path B i i v → 0 ≤ v

theorem fine_of {n : Nat} {B R : Bnd} (h : Over n B) (hlo : ∀ i j v, fwR B n i j v → R i j v)
    (hd : ∀ i v, R i i v → 0 ≤ v) : Fine B := fun i v p => hd i v (between h hlo hd p)

/-- A point lies within all bounds. -/
def Sat (B : Bnd) (p : Nat → Int) : Prop := ∀ i j v, B i j v → p j - p i ≤ v

theorem Sat.path {B : Bnd} {p : Nat → Int} (h : Sat B p) : Sat (Path B) p := by
  intro i j v q
  induction q with
  | one b => exact h _ _ _ b
  | two _ _ hs ih1 ih2 => omega

theorem Sat.fine {B : Bnd} {p : Nat → Int} (h : Sat B p) : Fine B := by
  intro i v q
  have := h.path _ _ _ q
  omega

/-- One bound more. -/
def plus (B : Bnd) (a b : Nat) (c : Int) : Bnd := fun i j v => B i j v ∨ (i = a ∧ j = b ∧ c ≤ v)

theorem plus_over {n B a b c} (h : Over n B) (ha : a < n) (hb : b < n) : Over n (plus B a b c) := by
  constructor
  · rintro i j v w (h1 | ⟨rfl, rfl, h1⟩) hv
    · exact .inl (h.up _ _ _ _ h1 hv)
    · exact .inr ⟨rfl, rfl, by omega⟩
  · rintro i j v (h1 | ⟨rfl, rfl, h1⟩)
    · exact h.inn _ _ _ h1
    · exact ⟨ha, hb⟩

/-- Each place is itself. -/
def Refl (n : Nat) (B : Bnd) : Prop := ∀ i, i < n → B i i 0

/-- The ways with one bound more, where its opposite is not too small: at most once over it. -/
theorem path_plus {n : Nat} {B : Bnd} (hr : Refl n B) {a b : Nat} (ha : a < n) (hb : b < n) {c : Int} (hc : ∀ v, Path B b a v → 0 ≤ v + c) {i j v} (p : Path (plus B a b c) i j v) :
    Path B i j v ∨ ∃ u w, Path B i a u ∧ Path B b j w ∧ u + c + w ≤ v := by
  induction p with
  | one h =>
    rcases h with h | ⟨rfl, rfl, h⟩
    · exact .inl (.one h)
    · exact .inr ⟨0, 0, .one (hr _ ha), .one (hr _ hb), by omega⟩
  | two p q hs ih1 ih2 =>
    rcases ih1 with p1 | ⟨u1, w1, hu1, hw1, s1⟩
    · rcases ih2 with p2 | ⟨u2, w2, hu2, hw2, s2⟩
      · exact .inl (.two p1 p2 hs)
      · exact .inr ⟨_, w2, .two p1 hu2 (Int.le_refl _), hw2, by omega⟩
    · rcases ih2 with p2 | ⟨u2, w2, hu2, hw2, s2⟩
      · exact .inr ⟨u1, _, hu1, .two hw1 p2 (Int.le_refl _), by omega⟩
      · have := hc _ (.two hw1 hu2 (Int.le_refl _))
        exact .inr ⟨u1, w2, hu1, hw2, by omega⟩

theorem fine_plus {n : Nat} {B : Bnd} (hr : Refl n B) (hf : Fine B) {a b : Nat} (ha : a < n) (hb : b < n) {c : Int} (hc : ∀ v, Path B b a v → 0 ≤ v + c) : Fine (plus B a b c) := by
  intro i v p
  rcases path_plus hr ha hb hc p with p | ⟨u, w, h1, h2, hs⟩
  · exact hf _ _ p
  · have := hc _ (.two h2 h1 (Int.le_refl _))
    omega

theorem not_fine_plus {B : Bnd} {a b : Nat} {c v : Int} (p : Path B b a v) (hv : v + c < 0) : ¬ Fine (plus B a b c) := by
  intro hf
  have := hf b (v + c) (.two (p.mono fun _ _ _ h => .inl h) (.one (.inr ⟨rfl, rfl, Int.le_refl _⟩)) (Int.le_refl _))
  omega

theorem Fine.mono {B C : Bnd} (h : ∀ i j v, B i j v → C i j v) (hf : Fine C) : Fine B := fun i v p => hf i v (p.mono h)
theorem fine_path {B : Bnd} (h : Fine B) : Fine (Path B) := fun i v p => h i v p.idem

end Go.Proofs.Rcn
