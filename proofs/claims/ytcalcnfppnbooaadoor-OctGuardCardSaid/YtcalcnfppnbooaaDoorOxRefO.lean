import Derived.Test.YtcalcnfppnbooaaDoorOxRefZ
import Derived.Test.YtcalcnfppnbooaaDoorOxOctCells
/- Plain law: the reference's closing of an octagon (sweeps, as long as a bound gets less): what the sweeps come to. No program. -/
set_option linter.unusedVariables false
namespace Go.Proofs.Rcn
open Go.RowKit (wrap64)

/-! ### 1. Walks: short ones are enough -/
inductive Walk (B : Bnd) : Nat → List Nat → Nat → Int → Prop
  | one {i j v} : B i j v → Walk B i [] j v
  | cons {i k l j u w v} : B i k u → Walk B k l j w → u + w ≤ v → Walk B i (k :: l) j v
theorem Walk.path {B : Bnd} {i l j v} (p : Walk B i l j v) : Path B i j v := by
  induction p with
  | one b => exact .one b
  | cons b _ hs ih => exact .two (.one b) ih hs
theorem Walk.app {B : Bnd} {i l k u} (p : Walk B i l k u) : ∀ {m j w v}, Walk B k m j w → u + w ≤ v → Walk B i (l ++ k :: m) j v := by
  induction p with
  | one b => intro m j w v q h; exact .cons b q h
  | cons b _ hs ih => intro m j w v q h; exact .cons b (ih q (Int.le_refl _)) (by omega)
theorem walk_of {B : Bnd} {i j v} (p : Path B i j v) : ∃ l, Walk B i l j v := by
  induction p with
  | one b => exact ⟨[], .one b⟩
  | two _ _ hs ih1 ih2 =>
    obtain ⟨l1, p1⟩ := ih1
    obtain ⟨l2, p2⟩ := ih2
    exact ⟨_, p1.app p2 hs⟩
theorem Walk.split {B : Bnd} : ∀ (l1 : List Nat) {i x l2 j v}, Walk B i (l1 ++ x :: l2) j v → ∃ u w, Walk B i l1 x u ∧ Walk B x l2 j w ∧ u + w ≤ v
  | [], i, x, l2, j, v, p => by
    cases p with
    | cons b q hs => exact ⟨_, _, .one b, q, hs⟩
  | y :: l1, i, x, l2, j, v, p => by
    cases p with
    | cons b q hs =>
      obtain ⟨u, w, h1, h2, h3⟩ := Walk.split l1 q
      exact ⟨_, w, .cons b h1 (Int.le_refl _), h2, by omega⟩
theorem Walk.inn {n : Nat} {B : Bnd} (ho : Over n B) {i l j v} (p : Walk B i l j v) : i < n ∧ (∀ x ∈ l, x < n) ∧ j < n := by
  induction p with
  | one b => exact ⟨(ho.inn _ _ _ b).1, (fun x h => by cases h), (ho.inn _ _ _ b).2⟩
  | cons b _ hs ih =>
    refine ⟨(ho.inn _ _ _ b).1, fun x h => ?_, ih.2.2⟩
    rcases List.mem_cons.1 h with rfl | h
    · exact ih.1
    · exact ih.2.1 x h
theorem Walk.up {n : Nat} {B : Bnd} (ho : Over n B) {i l j v w} (p : Walk B i l j v) (h : v ≤ w) : Walk B i l j w := by
  cases p with
  | one b => exact .one (ho.up _ _ _ _ b h)
  | cons b q hs => exact .cons b q (by omega)
theorem nodup_le : ∀ (n : Nat) (l : List Nat), l.Nodup → (∀ x ∈ l, x < n) → l.length ≤ n
  | 0, l, _, h => by
    cases l with
    | nil => simp
    | cons a _ => exact absurd (h a (by simp)) (by omega)
  | n + 1, l, hd, h => by
    by_cases hm : n ∈ l
    · have h1 := nodup_le n (l.erase n) (hd.erase n) (fun x hx => by
        have h1 := (List.Nodup.mem_erase_iff hd).1 hx
        have h2 := h x h1.2
        have h3 := h1.1
        omega)
      rw [List.length_erase_of_mem hm] at h1
      have := List.length_pos_of_mem hm
      omega
    · have := nodup_le n l hd (fun x hx => by
        have h2 := h x hx
        have h3 : x ≠ n := fun e => hm (e ▸ hx)
        omega)
      omega
theorem dup_of : ∀ l : List Nat, ¬ l.Nodup → ∃ a x b c, l = a ++ x :: (b ++ x :: c)
  | [], h => absurd List.nodup_nil h
  | y :: l, h => by
    by_cases hm : y ∈ l
    · obtain ⟨b, c, e⟩ := List.append_of_mem hm
      exact ⟨[], y, b, c, by rw [e]; rfl⟩
    · have : ¬ l.Nodup := fun q => h (List.nodup_cons.2 ⟨hm, q⟩)
      obtain ⟨a, x, b, c, e⟩ := dup_of l this
      exact ⟨y :: a, x, b, c, by rw [e]; rfl⟩
theorem Walk.short {n : Nat} {B : Bnd} (ho : Over n B) (hf : Fine B) : ∀ m l i j v, l.length ≤ m → Walk B i l j v → ∃ l', Walk B i l' j v ∧ l'.length + 1 ≤ n := by
  intro m
  induction m with
  | zero =>
    intro l i j v hl p
    obtain rfl : l = [] := List.eq_nil_of_length_eq_zero (by omega)
    exact ⟨[], p, by have := (p.inn ho).1; simp; omega⟩
  | succ m ih =>
    intro l i j v hl p
    by_cases hd : (i :: l).Nodup
    · refine ⟨l, p, ?_⟩
      have := nodup_le n (i :: l) hd (fun x hx => by
        rcases List.mem_cons.1 hx with rfl | hx
        · exact (p.inn ho).1
        · exact (p.inn ho).2.1 x hx)
      simpa using this
    · obtain ⟨a, x, b, c, e⟩ := dup_of _ hd
      cases a with
      | nil =>
        simp only [List.nil_append, List.cons.injEq] at e
        obtain ⟨rfl, rfl⟩ := e
        obtain ⟨u, w, p1, p2, hs⟩ := Walk.split b p
        have := hf _ _ p1.path
        exact ih c i j v (by simp at hl; omega) (p2.up ho (by omega))
      | cons y a =>
        simp only [List.cons_append, List.cons.injEq] at e
        obtain ⟨rfl, rfl⟩ := e
        obtain ⟨u1, w1, p1, q1, hs1⟩ := Walk.split a p
        obtain ⟨u2, w2, p2, q2, hs2⟩ := Walk.split b q1
        have := hf _ _ p2.path
        exact ih (a ++ x :: c) i j v (by simp at hl ⊢; omega) (p1.app q2 (by omega))
theorem neg_short {n : Nat} {B : Bnd} (ho : Over n B) : ∀ m l i v, l.length ≤ m → Walk B i l i v → v < 0 → ∃ x l' v', Walk B x l' x v' ∧ v' < 0 ∧ l'.length + 1 ≤ n := by
  intro m
  induction m with
  | zero =>
    intro l i v hl p hv
    obtain rfl : l = [] := List.eq_nil_of_length_eq_zero (by omega)
    exact ⟨i, [], v, p, hv, by have := (p.inn ho).1; simp; omega⟩
  | succ m ih =>
    intro l i v hl p hv
    by_cases hd : (i :: l).Nodup
    · refine ⟨i, l, v, p, hv, ?_⟩
      have := nodup_le n (i :: l) hd (fun x hx => by
        rcases List.mem_cons.1 hx with rfl | hx
        · exact (p.inn ho).1
        · exact (p.inn ho).2.1 x hx)
      simpa using this
    · obtain ⟨a, x, b, c, e⟩ := dup_of _ hd
      cases a with
      | nil =>
        simp only [List.nil_append, List.cons.injEq] at e
        obtain ⟨rfl, rfl⟩ := e
        obtain ⟨u, w, p1, p2, hs⟩ := Walk.split b p
        simp at hl
        by_cases hu : u < 0
        · exact ih b i u (by omega) p1 hu
        · exact ih c i w (by omega) p2 (by omega)
      | cons y a =>
        simp only [List.cons_append, List.cons.injEq] at e
        obtain ⟨rfl, rfl⟩ := e
        obtain ⟨u1, w1, p1, q1, hs1⟩ := Walk.split a p
        obtain ⟨u2, w2, p2, q2, hs2⟩ := Walk.split b q1
        simp at hl
        by_cases hu : u2 < 0
        · exact ih b x u2 (by omega) p2 hu
        · exact ih (a ++ x :: c) i (u1 + w2) (by simp; omega) (p1.app q2 (Int.le_refl _)) (by omega)

/-! ### 2. The steps of a sweep, no sum wrapped: what they keep, what they tell -/
def fT1 (n : Nat) (L : List Cel) (i : Nat) : List Cel := leastL L (i * n + op i) (cg L (i * n + op i)).has (2 * ((cg L (i * n + op i)).most / 2))
def fT2 (n i : Nat) (L : List Cel) (j : Nat) : List Cel := leastL L (i * n + j) ((cg L (i * n + op i)).has && (cg L (op j * n + j)).has) (((cg L (i * n + op i)).most + (cg L (op j * n + j)).most) / 2)
def foJ (n i : Nat) (L : List Cel) (j : Nat) : List Cel := fswJ n i (fT2 n i L j) j
def foI (n : Nat) (L : List Cel) (i : Nat) : List Cel := rep (foJ n i) n (fT1 n L i)
def foS (n : Nat) (L : List Cel) : List Cel := rep (foI n) n L
/-- Keeps its size, forgets nothing. -/
def Up (n : Nat) (f : List Cel → List Cel) : Prop := ∀ L, L.length = n * n → (f L).length = n * n ∧ ∀ i j v, Bd n L i j v → Bd n (f L) i j v
section
variable {n : Nat}
theorem Up.comp {f g : List Cel → List Cel} (hf : Up n f) (hg : Up n g) : Up n fun L => g (f L) := fun L hL =>
  ⟨(hg _ (hf L hL).1).1, fun i j v b => (hg _ (hf L hL).1).2 _ _ _ ((hf L hL).2 _ _ _ b)⟩
theorem Up.rep {m : Nat} {f : List Cel → Nat → List Cel} (h : ∀ x, x < m → Up n fun L => f L x) : ∀ k, k ≤ m → Up n (Rcn.rep f k)
  | 0, _ => fun L hL => ⟨hL, fun _ _ _ b => b⟩
  | k + 1, hk => fun L hL => by
    have a := Up.rep h k (by omega) L hL
    have b := h k (by omega) _ a.1
    exact ⟨b.1, fun i j v q => b.2 _ _ _ (a.2 _ _ _ q)⟩
theorem up_from {m : Nat} {f : List Cel → Nat → List Cel} (h : ∀ x, x < m → Up n fun L => f L x) {x : Nat} {L : List Cel} (hL : L.length = n * n) : ∀ k, x < k → k ≤ m → ∀ i j v, Bd n (f (Rcn.rep f x L) x) i j v → Bd n (Rcn.rep f k L) i j v := by
  intro k hk
  induction hk with
  | refl => intro _ i j v b; exact b
  | @step k hk ih =>
    intro hm i j v b
    rw [rep_succ]
    exact (h k (by omega) _ (Up.rep h k (by omega) L hL).1).2 _ _ _ (ih (by omega) _ _ _ b)
theorem up_tells {m : Nat} {f : List Cel → Nat → List Cel} (h : ∀ x, x < m → Up n fun L => f L x) {x : Nat} (hx : x < m) {L : List Cel} (hL : L.length = n * n) :
    ∃ M, M.length = n * n ∧ (∀ i j v, Bd n L i j v → Bd n M i j v) ∧ ∀ i j v, Bd n (f M x) i j v → Bd n (Rcn.rep f m L) i j v :=
  ⟨Rcn.rep f x L, (Up.rep h x (by omega) L hL).1, (Up.rep h x (by omega) L hL).2, up_from h hL m hx (Nat.le_refl _)⟩
theorem up_least {a b : Nat} (ha : a < n) (hb : b < n) (h : List Cel → Bool) (m : List Cel → Int) : Up n fun L => leastL L (a * n + b) (h L) (m L) := fun L hL =>
  ⟨by rw [leastL_length]; exact hL, fun i j v q => (bd_least hL ha hb _ _ _ _ _).2 (.inl q)⟩
variable (hop : ∀ i, i < n → op i < n)
include hop
theorem up_T1 {i : Nat} (hi : i < n) : Up n fun L => fT1 n L i := up_least hi (hop i hi) (fun L => (cg L (i * n + op i)).has) (fun L => 2 * ((cg L (i * n + op i)).most / 2))
omit hop in
theorem up_T2 {i j : Nat} (hi : i < n) (hj : j < n) : Up n fun L => fT2 n i L j := up_least hi hj (fun L => (cg L (i * n + op i)).has && (cg L (op j * n + j)).has) (fun L => ((cg L (i * n + op i)).most + (cg L (op j * n + j)).most) / 2)
omit hop in
theorem up_J {k i j : Nat} (hi : i < n) (hj : j < n) : Up n fun L => freeJ n k i L j := up_least hi hj (fun L => (cg L (i * n + k)).has && (cg L (k * n + j)).has) (fun L => (cg L (i * n + k)).most + (cg L (k * n + j)).most)
omit hop in
theorem up_swJ {i j : Nat} (hi : i < n) (hj : j < n) : Up n fun L => fswJ n i L j := Up.rep (f := fun M k => freeJ n k i M j) (fun _ _ => up_J hi hj) n (Nat.le_refl _)
omit hop in
theorem up_foJ {i j : Nat} (hi : i < n) (hj : j < n) : Up n fun L => foJ n i L j := Up.comp (up_T2 hi hj) (up_swJ hi hj)
theorem up_foI {i : Nat} (hi : i < n) : Up n fun L => foI n L i := Up.comp (up_T1 hop hi) (Up.rep (f := foJ n i) (fun _ hj => up_foJ hi hj) n (Nat.le_refl _))
theorem up_foS : Up n (foS n) := Up.rep (f := foI n) (fun _ hi => up_foI hop hi) n (Nat.le_refl _)
theorem T1_tells {i : Nat} (hi : i < n) {L : List Cel} (hL : L.length = n * n) {v : Int} (h : Bd n L i (op i) v) : Bd n (fT1 n L i) i (op i) (2 * (v / 2)) :=
  (bd_least hL hi (hop i hi) _ _ _ _ _).2 (.inr ⟨h.2.2.1, rfl, rfl, by have := h.2.2.2; omega⟩)
omit hop in
theorem T2_tells {i j : Nat} (hi : i < n) (hj : j < n) {L : List Cel} (hL : L.length = n * n) {u w v : Int} (h1 : Bd n L i (op i) u) (h2 : Bd n L (op j) j w) (hv : (u + w) / 2 ≤ v) : Bd n (fT2 n i L j) i j v :=
  (bd_least hL hi hj _ _ _ _ _).2 (.inr ⟨by rw [h1.2.2.1, h2.2.2.1]; rfl, rfl, rfl, by have := h1.2.2.2; have := h2.2.2.2; omega⟩)
theorem foI_half {i : Nat} (hi : i < n) {L : List Cel} (hL : L.length = n * n) {v : Int} (h : Bd n L i (op i) v) : Bd n (foI n L i) i (op i) (2 * (v / 2)) :=
  (Up.rep (f := foJ n i) (fun _ hj => up_foJ hi hj) n (Nat.le_refl _) _ (up_T1 hop hi L hL).1).2 _ _ _ (T1_tells hop hi hL h)
theorem foI_strong {i j : Nat} (hi : i < n) (hj : j < n) {L : List Cel} (hL : L.length = n * n) {u w v : Int} (h1 : Bd n (fT1 n L i) i (op i) u) (h2 : Bd n (fT1 n L i) (op j) j w) (hv : (u + w) / 2 ≤ v) : Bd n (foI n L i) i j v := by
  obtain ⟨M, hM, a, b⟩ := up_tells (f := foJ n i) (fun _ hj => up_foJ hi hj) hj (up_T1 hop hi L hL).1
  exact b _ _ _ ((up_swJ hi hj _ (up_T2 hi hj M hM).1).2 _ _ _ (T2_tells hi hj hM (a _ _ _ h1) (a _ _ _ h2) hv))
theorem foI_tri {i j k : Nat} (hi : i < n) (hj : j < n) (hk : k < n) {L : List Cel} (hL : L.length = n * n) {u w v : Int} (h1 : Bd n L i k u) (h2 : Bd n L k j w) (hv : u + w ≤ v) : Bd n (foI n L i) i j v := by
  have t := up_T1 hop hi L hL
  obtain ⟨M, hM, a, b⟩ := up_tells (f := foJ n i) (fun _ hj => up_foJ hi hj) hj t.1
  refine b _ _ _ ?_
  have t2 := up_T2 hi hj M hM
  obtain ⟨M', hM', a', b'⟩ := up_tells (f := fun M k => freeJ n k i M j) (fun _ _ => up_J hi hj) hk t2.1
  exact b' _ _ _ (J_tells hi hj hM' (a' _ _ _ (t2.2 _ _ _ (a _ _ _ (t.2 _ _ _ h1)))) (a' _ _ _ (t2.2 _ _ _ (a _ _ _ (t.2 _ _ _ h2)))) hv)
theorem foS_half {i : Nat} (hi : i < n) {L : List Cel} (hL : L.length = n * n) {v : Int} (h : Bd n L i (op i) v) : Bd n (foS n L) i (op i) (2 * (v / 2)) := by
  obtain ⟨M, hM, a, b⟩ := up_tells (f := foI n) (fun _ hi => up_foI hop hi) hi hL
  exact b _ _ _ (foI_half hop hi hM (a _ _ _ h))
theorem foS_strong {i j : Nat} (hi : i < n) (hj : j < n) {L : List Cel} (hL : L.length = n * n) {u w v : Int} (h1 : Bd n L i (op i) u) (h2 : Bd n L (op j) j w) (hv : (u + w) / 2 ≤ v) : Bd n (foS n L) i j v := by
  obtain ⟨M, hM, a, b⟩ := up_tells (f := foI n) (fun _ hi => up_foI hop hi) hi hL
  have t := up_T1 hop hi M hM
  exact b _ _ _ (foI_strong hop hi hj hM (t.2 _ _ _ (a _ _ _ h1)) (t.2 _ _ _ (a _ _ _ h2)) hv)
theorem foS_tri {i j k : Nat} (hi : i < n) (hj : j < n) (hk : k < n) {L : List Cel} (hL : L.length = n * n) {u w v : Int} (h1 : Bd n L i k u) (h2 : Bd n L k j w) (hv : u + w ≤ v) : Bd n (foS n L) i j v := by
  obtain ⟨M, hM, a, b⟩ := up_tells (f := foI n) (fun _ hi => up_foI hop hi) hi hL
  exact b _ _ _ (foI_tri hop hi hj hk hM (a _ _ _ h1) (a _ _ _ h2) hv)
/-- Halved both, a way round: below 0 where the halves are. -/
theorem foS_neg {r q : Nat} (hr : r < n) (hq : q < r) (e : op r = q) {L : List Cel} (hL : L.length = n * n) {u w : Int} (h1 : Bd n L r q u) (h2 : Bd n L q r w) : Bd n (foS n L) r r (u / 2 + w / 2) := by
  have e2 : op q = r := by rw [← e, op_op]
  have G := fun x (hx : x < n) => up_foI hop hx
  have a := Up.rep (f := foI n) G q (by omega) L hL
  have b1 : Bd n (foI n (Rcn.rep (foI n) q L) q) q r (2 * (w / 2)) := by
    have := foI_half hop (show q < n by omega) a.1 (v := w) (by rw [e2]; exact a.2 _ _ _ h2)
    rwa [e2] at this
  have b2 := up_from (f := foI n) G hL r hq (by omega) _ _ _ b1
  have c := Up.rep (f := foI n) G r (by omega) L hL
  refine up_from (f := foI n) G hL n hr (Nat.le_refl _) _ _ _ ?_
  have d1 := T1_tells hop hr c.1 (v := u) (by rw [e]; exact c.2 _ _ _ h1)
  exact foI_strong hop hr hr c.1 d1 (by rw [e]; exact (up_T1 hop hr _ c.1).2 _ _ _ b2) (by omega)
/-- So many sweeps. -/
def foT (n m : Nat) (L : List Cel) : List Cel := rep (fun M _ => foS n M) m L
theorem up_foT (m : Nat) : Up n (foT n m) := Up.rep (f := fun M _ => foS n M) (fun _ _ => up_foS hop) m (Nat.le_refl _)
/-- Walks of so many steps are told by so many sweeps. -/
theorem foT_walk {L : List Cel} (hL : L.length = n * n) : ∀ t i l j v, Walk (Bd n L) i l j v → l.length + 1 ≤ 2 ^ t → Bd n (foT n t L) i j v := by
  intro t
  induction t with
  | zero =>
    intro i l j v p h
    obtain rfl : l = [] := List.eq_nil_of_length_eq_zero (by have : 2 ^ 0 = 1 := rfl; omega)
    cases p with
    | one b => exact b
  | succ t ih =>
    intro i l j v p h
    have hl := (up_foT hop t L hL).1
    show Bd n (foS n (foT n t L)) i j v
    rcases Nat.lt_or_ge (2 ^ t) (l.length + 1) with hlt | hge
    · have hp : 0 < 2 ^ t := Nat.two_pow_pos t
      have hm : 2 ^ t - 1 < l.length := by omega
      have e : l = l.take (2 ^ t - 1) ++ l[2 ^ t - 1] :: l.drop (2 ^ t - 1 + 1) := by
        rw [List.getElem_cons_drop, List.take_append_drop]
      rw [e] at p
      obtain ⟨u, w, p1, p2, hs⟩ := Walk.split _ p
      rw [Nat.pow_succ] at h
      have b1 := ih _ _ _ _ p1 (by rw [List.length_take]; omega)
      have b2 := ih _ _ _ _ p2 (by rw [List.length_drop]; omega)
      exact foS_tri hop b1.1 b2.2.1 b1.2.1 hl b1 b2 hs
    · exact (up_foS hop _ hl).2 _ _ _ (ih _ _ _ _ p hge)
end

/-! ### 3. As the reference does it: sums wrapped -/
def wT2 (n i : Nat) (L : List Cel) (j : Nat) : List Cel := leastL L (i * n + j) ((cg L (i * n + op i)).has && (cg L (op j * n + j)).has) (wrap64 ((cg L (i * n + op i)).most + (cg L (op j * n + j)).most) / 2)
def woJ (n i : Nat) (L : List Cel) (j : Nat) : List Cel := swJ n i (wT2 n i L j) j
def woI (n : Nat) (L : List Cel) (i : Nat) : List Cel := rep (woJ n i) n (fT1 n L i)
def woS (n : Nat) (L : List Cel) : List Cel := rep (woI n) n L
def woT (n m : Nat) (L : List Cel) : List Cel := rep (fun M _ => woS n M) m L
def cT1 (n : Nat) (c : List Nat) (i : Nat) : List Nat := c.set (i * n + op i) (ct c (i * n + op i) + 1)
def cT2 (n i : Nat) (c : List Nat) (j : Nat) : List Nat := c.set (i * n + j) (max (ct c (i * n + j)) ((ct c (i * n + op i) + ct c (op j * n + j)) / 2 + 1))
def coJ (n i : Nat) (c : List Nat) (j : Nat) : List Nat := cswJ n i (cT2 n i c j) j
def coI (n : Nat) (c : List Nat) (i : Nat) : List Nat := rep (coJ n i) n (cT1 n c i)
def coS (n : Nat) (c : List Nat) : List Nat := rep (coI n) n c
def coT (n m : Nat) (c : List Nat) : List Nat := rep (fun d _ => coS n d) m c
theorem cT1_le (n c i) : LeC c (cT1 n c i) := by
  refine ⟨by simp [cT1], fun k => ?_⟩
  unfold cT1
  rw [ct_set]
  split
  · rename_i h; rw [h.1]; omega
  · exact Nat.le_refl _
theorem cT2_le (n i c j) : LeC c (cT2 n i c j) := by
  refine ⟨by simp [cT2], fun k => ?_⟩
  unfold cT2
  rw [ct_set]
  split
  · rename_i h; rw [h.1]; omega
  · exact Nat.le_refl _
theorem coJ_le (n i c j) : LeC c (coJ n i c j) := (cT2_le n i c j).trans (cswJ_le n i _ j)
theorem coI_le (n c i) : LeC c (coI n c i) := (cT1_le n c i).trans (rep_le (coJ_le n i) (Nat.zero_le n))
theorem coS_le (n c) : LeC c (coS n c) := rep_le (coI_le n) (Nat.zero_le n)

/-- f, wrapped, does what g, not wrapped, does, while I holds; q counts it. -/
def SimI (I : List Nat → List Cel → Prop) (M n : Nat) (f g : List Cel → Nat → List Cel) (q : List Nat → Nat → List Nat) : Prop :=
  ∀ c L x, x < n → I c L → (∀ m, ct (q c x) m ≤ M) → f L x = g L x ∧ I (q c x) (g L x)
theorem SimI.rep {I : List Nat → List Cel → Prop} {M n : Nat} {f g : List Cel → Nat → List Cel} {q : List Nat → Nat → List Nat} (h : SimI I M n f g q) (hq : ∀ c x, LeC c (q c x)) {c : List Nat} {L : List Cel} (hI : I c L) : ∀ k, k ≤ n →
    (∀ m, ct (Rcn.rep q k c) m ≤ M) → Rcn.rep f k L = Rcn.rep g k L ∧ I (Rcn.rep q k c) (Rcn.rep g k L) := by
  intro k
  induction k with
  | zero => intro _ _; exact ⟨rfl, hI⟩
  | succ k ih =>
    intro hk hM
    obtain ⟨h1, h2⟩ := ih (by omega) (fun m => Nat.le_trans ((rep_le hq (Nat.le_succ k)).2 m) (hM m))
    simp only [rep_succ]
    rw [h1]
    exact h _ _ _ (by omega) h2 hM
theorem simI_sweep {I : List Nat → List Cel → Prop} {M n : Nat} (h1 : ∀ c L i, i < n → I c L → (∀ m, ct (cT1 n c i) m ≤ M) → I (cT1 n c i) (fT1 n L i))
    (h2 : ∀ i, i < n → SimI I M n (woJ n i) (foJ n i) (coJ n i)) (m : Nat) : SimI I M m (fun L _ => woS n L) (fun L _ => foS n L) (fun c _ => coS n c) := by
  have hI : SimI I M n (woI n) (foI n) (coI n) := by
    intro c L i hi hL hM
    have a := h1 c L i hi hL (fun m => Nat.le_trans ((rep_le (coJ_le n i) (Nat.zero_le n)).2 m) (hM m))
    exact (h2 i hi).rep (coJ_le n i) a n (Nat.le_refl _) hM
  intro c L x _ hL hM
  exact hI.rep (coI_le n) hL n (Nat.le_refl _) hM

/-- In sizes, counted. -/
def IN (n b : Nat) (c : List Nat) (L : List Cel) : Prop := L.length = n * n ∧ c.length = n * n ∧ Within b c L
theorem within_up {b : Nat} {c d : List Nat} {L : List Cel} (h : Within b c L) (hd : ∀ k, ct c k ≤ ct d k) : Within b d L := fun k => by
  have := h k
  have := Nat.mul_le_mul_left b (hd k)
  omega
theorem within_least {b : Nat} {c d : List Nat} {L : List Cel} {k : Nat} {h : Bool} {m : Int} (hw : Within b c L) (hd : ∀ k, ct c k ≤ ct d k) (hm : h = true → m ≤ b * ct d k ∧ -((b * ct d k : Nat) : Int) ≤ m) : Within b d (leastL L k h m) := by
  intro x
  unfold leastL
  rw [cg_set]
  split
  · rename_i e
    obtain ⟨rfl, _⟩ := e
    unfold leastC
    split
    · rename_i q
      simp only [Bool.and_eq_true] at q
      exact hm q.1
    · exact within_up hw hd k
  · exact within_up hw hd x
/-- What the steps keep; counted. -/
structure LoS (n : Nat) (Lo : List Nat → List Cel → Prop) : Prop where
  t1 : ∀ c L i, i < n → L.length = n * n → c.length = n * n → Lo c L → Lo (cT1 n c i) (fT1 n L i)
  t2 : ∀ c L i j, i < n → j < n → L.length = n * n → c.length = n * n → Lo c L → Lo (cT2 n i c j) (fT2 n i L j)
  tj : ∀ c L i j k, i < n → j < n → k < n → L.length = n * n → c.length = n * n → Lo c L → Lo (cntJ n k i c j) (freeJ n k i L j)
theorem LoS.true (n : Nat) : LoS n fun _ _ => True := ⟨fun _ _ _ _ _ _ _ => trivial, fun _ _ _ _ _ _ _ _ _ => trivial, fun _ _ _ _ _ _ _ _ _ _ _ => trivial⟩
theorem LoS.and {n : Nat} {A B : List Nat → List Cel → Prop} (a : LoS n A) (b : LoS n B) : LoS n fun c L => A c L ∧ B c L :=
  ⟨fun c L i h1 h2 h3 h => ⟨a.t1 c L i h1 h2 h3 h.1, b.t1 c L i h1 h2 h3 h.2⟩, fun c L i j h1 h2 h3 h4 h => ⟨a.t2 c L i j h1 h2 h3 h4 h.1, b.t2 c L i j h1 h2 h3 h4 h.2⟩,
   fun c L i j k h1 h2 h3 h4 h5 h => ⟨a.tj c L i j k h1 h2 h3 h4 h5 h.1, b.tj c L i j k h1 h2 h3 h4 h5 h.2⟩⟩
theorem LoS.norm (n : Nat) : LoS n fun _ L => Norm L := ⟨fun _ _ _ _ _ _ h => norm_least h _ _ _, fun _ _ _ _ _ _ _ _ h => norm_least h _ _ _, fun _ _ _ _ _ _ _ _ _ _ h => norm_least h _ _ _⟩
/-- Bounds from which the steps make bounds of the kind. -/
structure Cl (R : Bnd) : Prop where
  t1 : ∀ i v, R i (op i) v → R i (op i) (2 * (v / 2))
  t2 : ∀ i j u w, R i (op i) u → R (op j) j w → R i j ((u + w) / 2)
  tj : ∀ i j k u w, R i k u → R k j w → R i j (u + w)
  up : ∀ i j v w, R i j v → v ≤ w → R i j w
theorem LoS.of {n : Nat} (hop : ∀ i, i < n → op i < n) {R : Bnd} (h : Cl R) : LoS n fun _ L => ∀ i j v, Bd n L i j v → R i j v where
  t1 := fun c L i hi hL _ hR a b v q => by
    rcases (bd_least hL hi (hop i hi) _ _ _ _ _).1 q with q | ⟨e, rfl, rfl, hv⟩
    · exact hR _ _ _ q
    · exact h.up _ _ _ _ (h.t1 _ _ (hR _ _ _ ⟨hi, hop _ hi, e, Int.le_refl _⟩)) hv
  t2 := fun c L i j hi hj hL _ hR a b v q => by
    rcases (bd_least hL hi hj _ _ _ _ _).1 q with q | ⟨e, rfl, rfl, hv⟩
    · exact hR _ _ _ q
    · simp only [Bool.and_eq_true] at e
      exact h.up _ _ _ _ (h.t2 _ _ _ _ (hR _ _ _ ⟨hi, hop _ hi, e.1, Int.le_refl _⟩) (hR _ _ _ ⟨hop _ hj, hj, e.2, Int.le_refl _⟩)) hv
  tj := fun c L i j k hi hj hk hL _ hR a b v q => by
    rcases (bd_least hL hi hj _ _ _ _ _).1 q with q | ⟨e, rfl, rfl, hv⟩
    · exact hR _ _ _ q
    · simp only [Bool.and_eq_true] at e
      exact h.up _ _ _ _ (h.tj _ _ _ _ _ (hR _ _ _ ⟨hi, hk, e.1, Int.le_refl _⟩) (hR _ _ _ ⟨hk, hj, e.2, Int.le_refl _⟩)) hv
theorem simN {n b M : Nat} {Lo : List Nat → List Cel → Prop} (hop : ∀ i, i < n → op i < n) (hb1 : 1 ≤ b) (hb : 2 * (b * M) ≤ 9223372036854775807) (H : LoS n Lo) (m : Nat) : SimI (fun c L => IN n b c L ∧ Lo c L) M m (fun L _ => woS n L) (fun L _ => foS n L) (fun c _ => coS n c) := by
  refine simI_sweep (fun c L i hi hI hM => ?_) (fun i hi c L j hj hI hM => ?_) m
  · obtain ⟨⟨hL, hc, hw⟩, hLo⟩ := hI
    refine ⟨⟨by rw [fT1, leastL_length]; exact hL, by rw [← (cT1_le n c i).1]; exact hc, within_least hw (cT1_le n c i).2 fun _ => ?_⟩, H.t1 c L i hi hL hc hLo⟩
    have e : ct (cT1 n c i) (i * n + op i) = ct c (i * n + op i) + 1 := by
      unfold cT1; rw [ct_set, if_pos ⟨rfl, by rw [hc]; exact idx_lt hi (hop i hi)⟩]
    obtain ⟨q, hq⟩ : ∃ q, q = ct c (i * n + op i) + 1 := ⟨_, rfl⟩
    rw [e, ← hq]
    have e2 : b * q = b * ct c (i * n + op i) + b := by rw [hq, Nat.mul_add, Nat.mul_one]
    have := hw (i * n + op i)
    omega
  · obtain ⟨⟨hL, hc, hw⟩, hLo⟩ := hI
    have hM2 : ∀ m, ct (cT2 n i c j) m ≤ M := fun m => Nat.le_trans ((cswJ_le n i _ j).2 m) (hM m)
    have e : ct (cT2 n i c j) (i * n + j) = max (ct c (i * n + j)) ((ct c (i * n + op i) + ct c (op j * n + j)) / 2 + 1) := by
      unfold cT2; rw [ct_set, if_pos ⟨rfl, by rw [hc]; exact idx_lt hi hj⟩]
    have a1 := hw (i * n + op i)
    have a2 := hw (op j * n + j)
    have m1 : b * ct c (i * n + op i) ≤ b * M := Nat.mul_le_mul_left _ (Nat.le_trans ((cT2_le n i c j).2 _) (hM2 _))
    have m2 : b * ct c (op j * n + j) ≤ b * M := Nat.mul_le_mul_left _ (Nat.le_trans ((cT2_le n i c j).2 _) (hM2 _))
    have hwr : wrap64 ((cg L (i * n + op i)).most + (cg L (op j * n + j)).most) = (cg L (i * n + op i)).most + (cg L (op j * n + j)).most := by
      unfold wrap64; omega
    have e2 : wT2 n i L j = fT2 n i L j := by unfold wT2 fT2; rw [hwr]
    have hw2 : Within b (cT2 n i c j) (fT2 n i L j) := by
      refine within_least hw (cT2_le n i c j).2 fun _ => ?_
      rw [e]
      obtain ⟨q, hq⟩ : ∃ q, q = (ct c (i * n + op i) + ct c (op j * n + j)) / 2 + 1 := ⟨_, rfl⟩
      rw [← hq]
      have s : b * q ≤ b * max (ct c (i * n + j)) q := Nat.mul_le_mul_left _ (by omega)
      have s2 : b * (ct c (i * n + op i) + ct c (op j * n + j) + 1) ≤ b * (2 * q) := Nat.mul_le_mul_left _ (by omega)
      rw [Nat.mul_add, Nat.mul_add, Nat.mul_left_comm b 2 q] at s2
      omega
    have hs : SimI (fun c L => IN n b c L ∧ Lo c L) M n (fun M k => closeJ n k i M j) (fun M k => freeJ n k i M j) (fun d k => cntJ n k i d j) := by
      intro c L k hk hI hM
      obtain ⟨⟨hL, hc, hw⟩, hLo⟩ := hI
      obtain ⟨h1, h2⟩ := step_within hL hc hi hj hw hM (by omega)
      exact ⟨h1, ⟨by rw [free_length, hL], by rw [← (cntJ_le n k i c j).1]; exact hc, h2⟩, H.tj c L i j k hi hj hk hL hc hLo⟩
    have t := hs.rep (fun d k => cntJ_le n k i d j) ⟨⟨by rw [fT2, leastL_length]; exact hL, by rw [← (cT2_le n i c j).1]; exact hc, hw2⟩, H.t2 c L i j hi hj hL hc hLo⟩ n (Nat.le_refl _) hM
    refine ⟨?_, t.2⟩
    show swJ n i (wT2 n i L j) j = fswJ n i (fT2 n i L j) j
    rw [e2]
    exact t.1
end Go.Proofs.Rcn
