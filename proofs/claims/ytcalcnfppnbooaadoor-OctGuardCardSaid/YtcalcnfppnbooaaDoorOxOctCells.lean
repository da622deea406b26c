import Derived.Test.YtcalcnfppnbooaaDoorOxZones
/- Plain law: bounds of variables and their opposites: tightened once they stay closed, a bound is reached; as rows: closed, halved, tightened, clipped; what is left. No program. -/
set_option linter.unusedVariables false
namespace Go.Proofs.Rcn

/-- A variable and its opposite. -/
def op (i : Nat) : Nat := if i % 2 = 0 then i + 1 else i - 1
theorem op_op (i : Nat) : op (op i) = i := by
  unfold op
  by_cases h : i % 2 = 0
  · rw [if_pos h, if_neg (by omega)]; omega
  · rw [if_neg h, if_pos (by omega)]; omega
theorem op_ne (i : Nat) : op i ≠ i := by unfold op; split <;> omega
theorem op_lt {i m : Nat} (h : i < 2 * m) : op i < 2 * m := by unfold op; split <;> omega
theorem op_inj {i j : Nat} (h : op i = op j) : i = j := by rw [← op_op i, h, op_op]
def Coh (B : Bnd) : Prop := ∀ i j v, B i j v → B (op j) (op i) v

theorem Coh.path {B : Bnd} (h : Coh B) : Coh (Path B) := by
  intro i j v p
  induction p with
  | one b => exact .one (h _ _ _ b)
  | two _ _ hs ih1 ih2 => exact .two ih2 ih1 (by omega)

/-- Closed bounds over n places. -/
structure Shut (n : Nat) (D : Bnd) : Prop where
  over : Over n D
  refl : Refl n D
  tri : ∀ i k j u w, D i k u → D k j w → D i j (u + w)
  fine : ∀ i v, D i i v → 0 ≤ v

theorem shut_path {n : Nat} {B : Bnd} (ho : Over n B) (hr : Refl n B) (hf : Fine B) : Shut n (Path B) :=
  ⟨Path.over ho, fun i hi => .one (hr i hi), fun _ _ _ _ _ h1 h2 => .two h1 h2 (Int.le_refl _), hf⟩

theorem Shut.path {n : Nat} {D : Bnd} (h : Shut n D) {i j : Nat} {v : Int} (p : Path D i j v) : D i j v := by
  induction p with
  | one b => exact b
  | two _ _ hs ih1 ih2 => exact h.over.up _ _ _ _ (h.tri _ _ _ _ _ ih1 ih2) hs

/-- What a variable alone has, halved. -/
def Hf (D : Bnd) (i : Nat) (h : Int) : Prop := ∃ v, D i (op i) v ∧ v / 2 ≤ h
/-- Some point of whole numbers is left: no variable is held between two ends that pass each other. -/
def Whole (D : Bnd) : Prop := ∀ i h g, Hf D i h → Hf D (op i) g → 0 ≤ h + g
/-- The tight bounds. -/
def Ti (D : Bnd) : Bnd := fun i j v => D i j v ∨ (i ≠ j ∧ ∃ h g, Hf D i h ∧ Hf D (op j) g ∧ h + g ≤ v)

section
variable {n : Nat} {D : Bnd}

theorem Hf.up {i h g} (p : Hf D i h) (hg : h ≤ g) : Hf D i g := by
  obtain ⟨v, a, b⟩ := p
  exact ⟨v, a, by omega⟩

theorem hf_step (S : Shut n D) (hc : Coh D) {i k : Nat} {u h : Int} (p : D i k u) (q : Hf D k h) : Hf D i (u + h) := by
  obtain ⟨v, a, b⟩ := q
  have h1 := S.tri _ _ _ _ _ (S.tri _ _ _ _ _ p a) (hc _ _ _ p)
  exact ⟨_, h1, by omega⟩

theorem ti_tri (S : Shut n D) (hc : Coh D) (hw : Whole D) : ∀ i k j u w, Ti D i k u → Ti D k j w → Ti D i j (u + w) := by
  have fin : ∀ i j h g x, Hf D i h → Hf D (op j) g → h + g ≤ x → Ti D i j x := by
    intro i j h g x p q hx
    by_cases e : i = j
    · subst e
      obtain ⟨v, a, b⟩ := p
      have hi := (S.over.inn _ _ _ a).1
      have := hw i h g ⟨v, a, b⟩ q
      exact .inl (S.over.up _ _ _ _ (S.refl i hi) (by omega))
    · exact .inr ⟨e, h, g, p, q, hx⟩
  rintro i k j u w (a | ⟨_, h, g, p, q, hs⟩) (b | ⟨_, h', g', p', q', hs'⟩)
  · exact .inl (S.tri _ _ _ _ _ a b)
  · exact fin i j (u + h') g' _ (hf_step S hc a p') q' (by omega)
  · have hb := hc _ _ _ b
    exact fin i j h (w + g) _ p (hf_step S hc hb q) (by omega)
  · have := hw k h' g p' q
    exact fin i j h g' _ p q' (by omega)

theorem ti_over (S : Shut n D) : Over n (Ti D) := by
  constructor
  · rintro i j v w (a | ⟨e, h, g, p, q, hs⟩) hv
    · exact .inl (S.over.up _ _ _ _ a hv)
    · exact .inr ⟨e, h, g, p, q, by omega⟩
  · rintro i j v (a | ⟨e, h, g, ⟨_, a, _⟩, ⟨_, b, _⟩, hs⟩)
    · exact S.over.inn _ _ _ a
    · have := (S.over.inn _ _ _ b).2
      rw [op_op] at this
      exact ⟨(S.over.inn _ _ _ a).1, this⟩

theorem ti_shut (S : Shut n D) (hc : Coh D) (hw : Whole D) : Shut n (Ti D) where
  over := ti_over S
  refl := fun i hi => .inl (S.refl i hi)
  tri := ti_tri S hc hw
  fine := by
    rintro i v (a | ⟨e, _⟩)
    · exact S.fine _ _ a
    · exact absurd rfl e

theorem ti_coh (hc : Coh D) : Coh (Ti D) := by
  rintro i j v (a | ⟨e, h, g, p, q, hs⟩)
  · exact .inl (hc _ _ _ a)
  · exact .inr ⟨fun e' => e (op_inj e').symm, g, h, q, by rw [op_op]; exact p, by omega⟩

/-- What one alone has: even, and what it was, halved. -/
theorem ti_alone (i : Nat) (v : Int) (hin : Ti D i (op i) v) : ∃ h, Hf D i h ∧ 2 * h ≤ v := by
  rcases hin with a | ⟨_, h, g, p, q, hs⟩
  · exact ⟨v / 2, ⟨v, a, Int.le_refl _⟩, by omega⟩
  · rw [op_op] at q
    rcases Int.le_total h g with hl | hl
    · exact ⟨h, p, by omega⟩
    · exact ⟨g, q, by omega⟩
theorem ti_even {i : Nat} {h : Int} (p : Hf D i h) : Ti D i (op i) (2 * h) :=
  .inr ⟨fun e => op_ne i e.symm, h, h, p, by rw [op_op]; exact p, by omega⟩
theorem hf_ti {i : Nat} {h : Int} : Hf (Ti D) i h ↔ Hf D i h := by
  constructor
  · rintro ⟨v, a, b⟩
    obtain ⟨g, p, hg⟩ := ti_alone i v a
    exact p.up (by omega)
  · intro p
    exact ⟨2 * h, ti_even p, by omega⟩
theorem ti_whole (hw : Whole D) : Whole (Ti D) := fun i h g p q => hw i h g (hf_ti.1 p) (hf_ti.1 q)
/-- No bound is more than half of what two have alone. -/
theorem ti_strong {i j : Nat} (e : i ≠ j) {u w : Int} (a : Ti D i (op i) u) (b : Ti D (op j) j w) : ∃ v, Ti D i j v ∧ 2 * v ≤ u + w := by
  obtain ⟨h, p, hh⟩ := ti_alone i u a
  obtain ⟨g, q, hg⟩ := ti_alone (op j) w (by rw [op_op]; exact b)
  exact ⟨h + g, .inr ⟨e, h, g, p, q, Int.le_refl _⟩, by omega⟩
end

/-! ### A point of whole numbers lies within the tight bounds -/
/-- Fewer bounds: still some point. -/
theorem Whole.mono {B C : Bnd} (h : ∀ i j v, B i j v → C i j v) (hw : Whole C) : Whole B := by
  rintro i a b ⟨v, p, hp⟩ ⟨w, q, hq⟩
  exact hw i a b ⟨v, h _ _ _ p, hp⟩ ⟨w, h _ _ _ q, hq⟩

/-! ### Each bound between two variables is reached -/
/-- Tight: closed, coherent, nothing to be tightened. -/
structure Tight (n : Nat) (S : Bnd) : Prop where
  shut : Shut n S
  coh : Coh S
  even : ∀ i v, S i (op i) v → ∃ h, S i (op i) (2 * h) ∧ 2 * h ≤ v
  strong : ∀ i j u w, i ≠ j → S i (op i) u → S (op j) j w → ∃ v, S i j v ∧ 2 * v ≤ u + w
  whole : Whole S

theorem ti_tight {n : Nat} {D : Bnd} (S : Shut n D) (hc : Coh D) (hw : Whole D) : Tight n (Ti D) where
  shut := ti_shut S hc hw
  coh := ti_coh hc
  even := fun i v a => by
    obtain ⟨h, p, hh⟩ := ti_alone i v a
    exact ⟨h, ti_even p, hh⟩
  strong := fun i j u w e a b => ti_strong e a b
  whole := ti_whole hw

section
end

end Go.Proofs.Rcn
namespace Go.Proofs.Rcn
open Go.RowKit (wrap64)

def leastO (n : Nat) (L : List Cel) (i j : Nat) (h : Bool) (m : Int) : List Cel := leastL (leastL L (i * n + j) h m) (op j * n + op i) h m
def octD (n : Nat) (L : List Cel) (i : Nat) : List Cel := leastO n L i i true 0
def octJ (n k i : Nat) (L : List Cel) (j : Nat) : List Cel :=
  leastO n L i j ((cg L (i * n + k)).has && (cg L (k * n + j)).has) (wrap64 ((cg L (i * n + k)).most + (cg L (k * n + j)).most))
def octI (n k : Nat) (L : List Cel) (i : Nat) : List Cel := rep (octJ n k i) n L
def octK (n : Nat) (L : List Cel) (k : Nat) : List Cel := rep (octI n k) n L
def preOct (n : Nat) (L : List Cel) : List Cel := rep (octK n) n (rep (octD n) n L)

def ofreeJ (n k i : Nat) (L : List Cel) (j : Nat) : List Cel :=
  leastO n L i j ((cg L (i * n + k)).has && (cg L (k * n + j)).has) ((cg L (i * n + k)).most + (cg L (k * n + j)).most)
def ofreeI (n k : Nat) (L : List Cel) (i : Nat) : List Cel := rep (ofreeJ n k i) n L
def ofreeK (n : Nat) (L : List Cel) (k : Nat) : List Cel := rep (ofreeI n k) n L
def preOFree (n : Nat) (L : List Cel) : List Cel := rep (ofreeK n) n (rep (octD n) n L)

theorem leastO_length (n L i j h m) : (leastO n L i j h m).length = L.length := by simp [leastO, leastL_length]
theorem norm_leastO {n : Nat} {L : List Cel} (h : Norm L) (i j : Nat) (has : Bool) (m : Int) : Norm (leastO n L i j has m) := norm_least (norm_least h _ _ _) _ _ _
theorem near_leastO {n b : Nat} {L : List Cel} (h : Near b L) {i j : Nat} {has : Bool} {m : Int} (hm : has = true → m ≤ b ∧ -(b : Int) ≤ m) : Near b (leastO n L i j has m) := near_least (near_least h hm) hm

/-! ### 1. No sum is too great -/
def cntOJ (n k i : Nat) (c : List Nat) (j : Nat) : List Nat :=
  (c.set (i * n + j) (max (ct c (i * n + j)) (ct c (i * n + k) + ct c (k * n + j)))).set (op j * n + op i) (max (ct c (op j * n + op i)) (ct c (i * n + k) + ct c (k * n + j)))
def cntOI (n k : Nat) (c : List Nat) (i : Nat) : List Nat := rep (cntOJ n k i) n c
def cntOK (n : Nat) (c : List Nat) (k : Nat) : List Nat := rep (cntOI n k) n c
def cntOAll (n : Nat) : List Nat := rep (cntOK n) n (List.replicate (n * n) 1)

theorem cntOJ_eq (n k i c j m) : ct (cntOJ n k i c j) m =
    if op j * n + op i = m ∧ op j * n + op i < c.length then max (ct c (op j * n + op i)) (ct c (i * n + k) + ct c (k * n + j))
    else if i * n + j = m ∧ i * n + j < c.length then max (ct c (i * n + j)) (ct c (i * n + k) + ct c (k * n + j)) else ct c m := by
  unfold cntOJ
  rw [ct_set, ct_set, List.length_set]

theorem cntOJ_le (n k i c j) : LeC c (cntOJ n k i c j) := by
  refine ⟨by simp [cntOJ], fun m => ?_⟩
  rw [cntOJ_eq]
  split
  · rename_i h; rw [← h.1]; omega
  · split
    · rename_i h; rw [← h.1]; omega
    · exact Nat.le_refl _
theorem cntOI_le (n k c i) : LeC c (cntOI n k c i) := rep_le (cntOJ_le n k i) (Nat.zero_le n)
theorem cntOK_le (n c k) : LeC c (cntOK n c k) := rep_le (cntOI_le n k) (Nat.zero_le n)

theorem least_within {b : Nat} {c d : List Nat} {L : List Cel} {k : Nat} {h : Bool} {m : Int} (hk : k < L.length) (hw : Within b c L) (hle : ∀ x, ct c x ≤ ct d x)
    (hm : m ≤ (b * ct d k : Nat) ∧ -((b * ct d k : Nat) : Int) ≤ m) : Within b d (leastL L k h m) := by
  intro x
  rw [cg_least L hk]
  have h4 := Nat.mul_le_mul_left b (hle x)
  have h5 := hw x
  split
  · rename_i e
    subst e
    rcases leastC_most (cg L x) h m with h3 | h3
    · rw [h3]; omega
    · rw [h3]; omega
  · omega

theorem ostep_within {N k i j b M : Nat} {c : List Nat} {L : List Cel} (hL : L.length = 2 * N * (2 * N)) (hc : c.length = 2 * N * (2 * N)) (hi : i < 2 * N) (hj : j < 2 * N)
    (h : Within b c L) (hM : ∀ m, ct (cntOJ (2 * N) k i c j) m ≤ M) (hb : b * M ≤ 9223372036854775807) :
    octJ (2 * N) k i L j = ofreeJ (2 * N) k i L j ∧ Within b (cntOJ (2 * N) k i c j) (ofreeJ (2 * N) k i L j) := by
  have i1 := idx_lt hi hj
  have i2 := idx_lt (op_lt hj) (op_lt hi)
  have a1 : ct c (i * (2 * N) + k) + ct c (k * (2 * N) + j) ≤ ct (cntOJ (2 * N) k i c j) (i * (2 * N) + j) := by
    rw [cntOJ_eq]
    split
    · omega
    · rw [if_pos ⟨rfl, by omega⟩]; omega
  have a2 : ct c (i * (2 * N) + k) + ct c (k * (2 * N) + j) ≤ ct (cntOJ (2 * N) k i c j) (op j * (2 * N) + op i) := by
    rw [cntOJ_eq, if_pos ⟨rfl, by omega⟩]; omega
  have h1 := h (i * (2 * N) + k)
  have h2 := h (k * (2 * N) + j)
  have s1 := Nat.mul_le_mul_left b a1
  have s2 := Nat.mul_le_mul_left b a2
  have s3 := Nat.mul_le_mul_left b (hM (i * (2 * N) + j))
  rw [Nat.mul_add] at s1 s2
  have hw : wrap64 ((cg L (i * (2 * N) + k)).most + (cg L (k * (2 * N) + j)).most) = (cg L (i * (2 * N) + k)).most + (cg L (k * (2 * N) + j)).most := by
    unfold wrap64
    omega
  refine ⟨by unfold octJ ofreeJ; rw [hw], ?_⟩
  unfold ofreeJ leastO
  refine least_within (by rw [leastL_length]; omega) (least_within (by omega) h (cntOJ_le _ _ _ _ _).2 (by omega)) (fun _ => Nat.le_refl _) (by omega)

theorem osim_I {N k b M : Nat} (hb : b * M ≤ 9223372036854775807) : Sim b M (2 * N * (2 * N)) (2 * N) (octI (2 * N) k) (ofreeI (2 * N) k) (cntOI (2 * N) k) := by
  intro L c i hi hL hc hw hM
  have hs : Sim b M (2 * N * (2 * N)) (2 * N) (octJ (2 * N) k i) (ofreeJ (2 * N) k i) (cntOJ (2 * N) k i) := by
    intro L c j hj hL hc hw hM
    obtain ⟨h1, h2⟩ := ostep_within hL hc hi hj hw hM hb
    exact ⟨h1, by rw [ofreeJ, leastO_length, hL], h2⟩
  exact hs.rep (cntOJ_le _ k i) hL hc hw _ (Nat.le_refl _) hM
theorem osim_K {N b M : Nat} (hb : b * M ≤ 9223372036854775807) : Sim b M (2 * N * (2 * N)) (2 * N) (octK (2 * N)) (ofreeK (2 * N)) (cntOK (2 * N)) := by
  intro L c k _ hL hc hw hM
  exact (osim_I hb).rep (cntOI_le _ k) hL hc hw _ (Nat.le_refl _) hM

theorem octD_length (n L i) : (octD n L i).length = L.length := leastO_length ..
def odiag (n : Nat) (L : List Cel) : List Cel := rep (octD n) n L
theorem odiag_length (n L) : (odiag n L).length = L.length := rep_length (octD_length n) n L
theorem near_odiag {b n : Nat} {L : List Cel} (h : Near b L) : Near b (odiag n L) :=
  rep_ind (P := Near b) (fun L k _ h => near_leastO h (fun _ => ⟨by omega, by omega⟩)) h n (Nat.le_refl _)
theorem norm_odiag {n : Nat} {L : List Cel} (h : Norm L) : Norm (odiag n L) := norm_rep (fun _ _ h => norm_leastO h _ _ _ _) h n

theorem preO_free {N b M : Nat} {L : List Cel} (hL : L.length = 2 * N * (2 * N)) (hn : Near b L) (hM : ∀ m, ct (cntOAll (2 * N)) m ≤ M) (hb : b * M ≤ 9223372036854775807) :
    preOct (2 * N) L = preOFree (2 * N) L ∧ Near (b * M) (preOFree (2 * N) L) := by
  have hw : Within b (List.replicate (2 * N * (2 * N)) 1) (odiag (2 * N) L) := by
    intro k
    rw [ct_replicate]
    split
    · have := near_odiag (n := 2 * N) hn k
      omega
    · rw [cg_out (by rw [odiag_length, hL]; omega)]
      simp
  obtain ⟨h1, _, h3⟩ := (osim_K (N := N) hb).rep (cntOK_le _) (by rw [odiag_length, hL]) (by simp) hw _ (Nat.le_refl _) hM
  refine ⟨h1, fun k => ?_⟩
  have h4 := h3 k
  have h5 := Nat.mul_le_mul_left b (hM k)
  unfold preOFree
  unfold cntOAll at h5
  unfold odiag at h4
  omega

theorem cntO_four : ∀ N, N ≤ 4 → ∀ m, ct (cntOAll (2 * N)) m ≤ 4194304 := by
  intro N hn
  have : N = 0 ∨ N = 1 ∨ N = 2 ∨ N = 3 ∨ N = 4 := by omega
  rcases this with rfl | rfl | rfl | rfl | rfl <;> exact ct_le_of (by decide +kernel)

/-! ### 2. As a relation -/
theorem bd_leastO {N : Nat} {L : List Cel} (hL : L.length = 2 * N * (2 * N)) {a b : Nat} (ha : a < 2 * N) (hb : b < 2 * N) (h : Bool) (m : Int) (i j : Nat) (v : Int) :
    Bd (2 * N) (leastO (2 * N) L a b h m) i j v ↔ Bd (2 * N) L i j v ∨ (h = true ∧ i = a ∧ j = b ∧ m ≤ v) ∨ (h = true ∧ i = op b ∧ j = op a ∧ m ≤ v) := by
  unfold leastO
  rw [bd_least (by rw [leastL_length, hL]) (op_lt hb) (op_lt ha), bd_least hL ha hb]
  constructor
  · rintro ((h | h) | h)
    · exact .inl h
    · exact .inr (.inl h)
    · exact .inr (.inr h)
  · rintro (h | h | h)
    · exact .inl (.inl h)
    · exact .inl (.inr h)
    · exact .inr h

/-- As 'Good', of coherent ones. -/
def GoodC (n : Nat) (f : List Cel → List Cel) : Prop := ∀ L, L.length = n * n → Coh (Bd n L) →
  (f L).length = n * n ∧ Coh (Bd n (f L)) ∧ (∀ i j v, Bd n L i j v → Bd n (f L) i j v) ∧ (∀ i j v, Bd n (f L) i j v → Path (Bd n L) i j v)
theorem GoodC.id {n} : GoodC n fun L => L := fun _ h c => ⟨h, c, fun _ _ _ b => b, fun _ _ _ b => .one b⟩
theorem GoodC.comp {n f g} (hf : GoodC n f) (hg : GoodC n g) : GoodC n fun L => g (f L) := by
  intro L hL c
  obtain ⟨a1, a0, a2, a3⟩ := hf L hL c
  obtain ⟨b1, b0, b2, b3⟩ := hg _ a1 a0
  exact ⟨b1, b0, fun i j v h => b2 _ _ _ (a2 _ _ _ h), fun i j v h => ((b3 _ _ _ h).mono a3).idem⟩
theorem GoodC.rep {n m : Nat} {f : List Cel → Nat → List Cel} (h : ∀ x, x < m → GoodC n fun L => f L x) : ∀ k, k ≤ m → GoodC n (Rcn.rep f k)
  | 0, _ => GoodC.id
  | k + 1, hk => (GoodC.rep h k (by omega)).comp (h k (by omega))
theorem repC_tells {n m : Nat} {f : List Cel → Nat → List Cel} (h : ∀ x, x < m → GoodC n fun L => f L x) {x : Nat} (hx : x < m) {L : List Cel} (hL : L.length = n * n) (hc : Coh (Bd n L)) :
    ∃ M, M.length = n * n ∧ Coh (Bd n M) ∧ (∀ i j v, Bd n L i j v → Bd n M i j v) ∧ ∀ i j v, Bd n (f M x) i j v → Bd n (rep f m L) i j v := by
  have h1 := GoodC.rep h x (by omega) L hL hc
  refine ⟨rep f x L, h1.1, h1.2.1, h1.2.2.1, ?_⟩
  have key : ∀ k, x + 1 ≤ k → k ≤ m → ∀ i j v, Bd n (f (rep f x L) x) i j v → Bd n (rep f k L) i j v := by
    intro k hk
    induction hk with
    | refl => intro _ i j v b; exact b
    | @step m' hk ih =>
      intro hm i j v b
      rw [rep_succ]
      have h2 := GoodC.rep h m' (by omega) L hL hc
      exact (h m' (by omega) _ h2.1 h2.2.1).2.2.1 _ _ _ (ih (by omega) _ _ _ b)
  exact key m (by omega) (Nat.le_refl _)

theorem goodC_least {N a b : Nat} (ha : a < 2 * N) (hb : b < 2 * N) {L : List Cel} (hL : L.length = 2 * N * (2 * N)) (hc : Coh (Bd (2 * N) L)) {h : Bool} {m : Int} (hp : h = true → Path (Bd (2 * N) L) a b m) :
    (leastO (2 * N) L a b h m).length = 2 * N * (2 * N) ∧ Coh (Bd (2 * N) (leastO (2 * N) L a b h m)) ∧ (∀ i j v, Bd (2 * N) L i j v → Bd (2 * N) (leastO (2 * N) L a b h m) i j v) ∧
      (∀ i j v, Bd (2 * N) (leastO (2 * N) L a b h m) i j v → Path (Bd (2 * N) L) i j v) := by
  have e := bd_leastO hL ha hb h m
  have up := (Path.over (bd_over (2 * N) L)).up
  refine ⟨by rw [leastO_length, hL], ?_, fun i j v q => (e i j v).2 (.inl q), ?_⟩
  · intro i j v q
    rw [e] at q ⊢
    rcases q with q | ⟨q, rfl, rfl, hv⟩ | ⟨q, rfl, rfl, hv⟩
    · exact .inl (hc _ _ _ q)
    · exact .inr (.inr ⟨q, rfl, rfl, hv⟩)
    · exact .inr (.inl ⟨q, op_op _, op_op _, hv⟩)
  · intro i j v q
    rcases (e i j v).1 q with q0 | ⟨qh, rfl, rfl, hv⟩ | ⟨qh, rfl, rfl, hv⟩
    · exact .one q0
    · exact up _ _ _ _ (hp qh) hv
    · exact up _ _ _ _ (hc.path _ _ _ (hp qh)) hv

theorem goodC_J {N k i j : Nat} (hk : k < 2 * N) (hi : i < 2 * N) (hj : j < 2 * N) : GoodC (2 * N) fun L => ofreeJ (2 * N) k i L j := by
  intro L hL hc
  refine goodC_least hi hj hL hc fun h => ?_
  simp only [Bool.and_eq_true] at h
  exact .two (.one ⟨hi, hk, h.1, Int.le_refl _⟩) (.one ⟨hk, hj, h.2, Int.le_refl _⟩) (Int.le_refl _)
theorem oJ_tells {N k i j : Nat} (hi : i < 2 * N) (hj : j < 2 * N) {L : List Cel} (hL : L.length = 2 * N * (2 * N)) {u w v : Int} (h1 : Bd (2 * N) L i k u) (h2 : Bd (2 * N) L k j w) (hv : u + w ≤ v) : Bd (2 * N) (ofreeJ (2 * N) k i L j) i j v := by
  refine (bd_leastO hL hi hj _ _ i j v).2 (.inr (.inl ⟨by simp [h1.2.2.1, h2.2.2.1], rfl, rfl, ?_⟩))
  have := h1.2.2.2
  have := h2.2.2.2
  omega
theorem goodC_I {N k i : Nat} (hk : k < 2 * N) (hi : i < 2 * N) : GoodC (2 * N) fun L => ofreeI (2 * N) k L i := GoodC.rep (fun _ hj => goodC_J hk hi hj) _ (Nat.le_refl _)
theorem goodC_K {N k : Nat} (hk : k < 2 * N) : GoodC (2 * N) fun L => ofreeK (2 * N) L k := GoodC.rep (fun _ hi => goodC_I hk hi) _ (Nat.le_refl _)
theorem goodC_free {N : Nat} : GoodC (2 * N) (rep (ofreeK (2 * N)) (2 * N)) := GoodC.rep (fun _ hk => goodC_K hk) _ (Nat.le_refl _)
theorem oK_tells {N k i j : Nat} (hk : k < 2 * N) (hi : i < 2 * N) (hj : j < 2 * N) {L : List Cel} (hL : L.length = 2 * N * (2 * N)) (hc : Coh (Bd (2 * N) L)) {u w v : Int} (h1 : Bd (2 * N) L i k u) (h2 : Bd (2 * N) L k j w) (hv : u + w ≤ v) :
    Bd (2 * N) (ofreeK (2 * N) L k) i j v := by
  obtain ⟨M, hM, cM, a, b⟩ := repC_tells (f := ofreeI (2 * N) k) (fun _ hi => goodC_I hk hi) hi hL hc
  refine b _ _ _ ?_
  obtain ⟨M', hM', _, a', b'⟩ := repC_tells (f := ofreeJ (2 * N) k i) (fun _ hj => goodC_J hk hi hj) hj hM cM
  exact b' _ _ _ (oJ_tells hi hj hM' (a' _ _ _ (a _ _ _ h1)) (a' _ _ _ (a _ _ _ h2)) hv)
theorem ofree_fw {N : Nat} {L : List Cel} (hL : L.length = 2 * N * (2 * N)) (hc : Coh (Bd (2 * N) L)) : ∀ k, k ≤ 2 * N → ∀ i j v, fwR (Bd (2 * N) L) k i j v → Bd (2 * N) (rep (ofreeK (2 * N)) k L) i j v := by
  intro k
  induction k with
  | zero => intro _ i j v h; exact h
  | succ k ih =>
    intro hk i j v h
    have hl := GoodC.rep (f := ofreeK (2 * N)) (fun _ hk => goodC_K hk) k (by omega) L hL hc
    rcases h with h | ⟨u, w, h1, h2, hs⟩
    · exact (goodC_K (by omega) _ hl.1 hl.2.1).2.2.1 _ _ _ (ih (by omega) _ _ _ h)
    · have b1 := ih (by omega) _ _ _ h1
      have b2 := ih (by omega) _ _ _ h2
      exact oK_tells (by omega) b1.1 b2.2.1 hl.1 hl.2.1 b1 b2 hs

theorem bd_odiag {N : Nat} {L : List Cel} (hL : L.length = 2 * N * (2 * N)) (i j : Nat) (v : Int) : Bd (2 * N) (odiag (2 * N) L) i j v ↔ Bd (2 * N) L i j v ∨ (i = j ∧ i < 2 * N ∧ 0 ≤ v) := by
  have key : ∀ k, k ≤ 2 * N → ((Bd (2 * N) (rep (octD (2 * N)) k L) i j v → Bd (2 * N) L i j v ∨ (i = j ∧ i < 2 * N ∧ 0 ≤ v)) ∧ (Bd (2 * N) L i j v ∨ (i = j ∧ i < k ∧ 0 ≤ v) → Bd (2 * N) (rep (octD (2 * N)) k L) i j v)) := by
    intro k
    induction k with
    | zero => intro _; exact ⟨.inl, fun h => by rcases h with h | h; exact h; omega⟩
    | succ k ih =>
      intro hk
      obtain ⟨ih1, ih2⟩ := ih (by omega)
      rw [rep_succ, show octD (2 * N) (rep (octD (2 * N)) k L) k = leastO (2 * N) (rep (octD (2 * N)) k L) k k true 0 from rfl,
        bd_leastO (by rw [rep_length (octD_length _), hL]) (by omega) (by omega)]
      constructor
      · rintro (h | ⟨_, rfl, rfl, h⟩ | ⟨_, rfl, rfl, h⟩)
        · exact ih1 h
        · exact .inr ⟨rfl, by omega, h⟩
        · exact .inr ⟨rfl, op_lt (by omega), h⟩
      · rintro (h | ⟨rfl, h1, h2⟩)
        · exact .inl (ih2 (.inl h))
        · rcases Nat.lt_or_ge i k with h3 | h3
          · exact .inl (ih2 (.inr ⟨rfl, h3, h2⟩))
          · have : i = k := by omega
            exact .inr (.inl ⟨rfl, this, this, h2⟩)
  exact ⟨(key _ (Nat.le_refl _)).1, (key _ (Nat.le_refl _)).2⟩

end Go.Proofs.Rcn
namespace Go.Proofs.Rcn
open Go.RowKit (wrap64)

/-! ### 1. The rounds come to the ways -/
section
variable {N : Nat} {L : List Cel}
theorem odiag_coh (hL : L.length = 2 * N * (2 * N)) (hc : Coh (Bd (2 * N) L)) : Coh (Bd (2 * N) (odiag (2 * N) L)) := by
  intro i j v h
  rw [bd_odiag hL] at h ⊢
  rcases h with h | ⟨rfl, hi, hv⟩
  · exact .inl (hc _ _ _ h)
  · exact .inr ⟨rfl, op_lt hi, hv⟩
theorem odiag_refl (hL : L.length = 2 * N * (2 * N)) : Refl (2 * N) (Bd (2 * N) (odiag (2 * N) L)) := fun i hi => (bd_odiag hL i i 0).2 (.inr ⟨rfl, hi, Int.le_refl _⟩)
theorem ofree_good (hL : L.length = 2 * N * (2 * N)) (hc : Coh (Bd (2 * N) L)) : (preOFree (2 * N) L).length = 2 * N * (2 * N) ∧ Coh (Bd (2 * N) (preOFree (2 * N) L)) ∧
    (∀ i j v, Bd (2 * N) (odiag (2 * N) L) i j v → Bd (2 * N) (preOFree (2 * N) L) i j v) ∧ (∀ i j v, Bd (2 * N) (preOFree (2 * N) L) i j v → Path (Bd (2 * N) (odiag (2 * N) L)) i j v) :=
  goodC_free (odiag (2 * N) L) (by rw [odiag_length]; exact hL) (odiag_coh hL hc)
theorem ofree_lo (hL : L.length = 2 * N * (2 * N)) (hc : Coh (Bd (2 * N) L)) (i j : Nat) (v : Int) : fwR (Bd (2 * N) (odiag (2 * N) L)) (2 * N) i j v → Bd (2 * N) (preOFree (2 * N) L) i j v :=
  ofree_fw (by rw [odiag_length]; exact hL) (odiag_coh hL hc) (2 * N) (Nat.le_refl _) i j v
theorem ook_fine (hL : L.length = 2 * N * (2 * N)) (hc : Coh (Bd (2 * N) L)) : okL (2 * N) (preOFree (2 * N) L) = true ↔ Fine (Bd (2 * N) (odiag (2 * N) L)) := by
  have g := ofree_good hL hc
  rw [okL_iff]
  constructor
  · intro h
    refine fine_of (R := Bd (2 * N) (preOFree (2 * N) L)) (bd_over _ _) (fun i j v b => ofree_lo hL hc i j v b) ?_
    intro i v b
    have := h i b.1
    have := b.2.2.2
    omega
  · intro hf i hi
    have h1 := g.2.2.1 i i 0 (odiag_refl hL i hi)
    exact hf i _ (g.2.2.2 i i _ ⟨hi, hi, h1.2.2.1, Int.le_refl _⟩)
theorem ofree_path (hL : L.length = 2 * N * (2 * N)) (hc : Coh (Bd (2 * N) L)) (hf : Fine (Bd (2 * N) (odiag (2 * N) L))) (i j : Nat) (v : Int) :
    Bd (2 * N) (preOFree (2 * N) L) i j v ↔ Path (Bd (2 * N) (odiag (2 * N) L)) i j v := by
  have g := ofree_good hL hc
  constructor
  · exact g.2.2.2 i j v
  · intro p
    refine between (R := Bd (2 * N) (preOFree (2 * N) L)) (bd_over _ _) (fun i j v b => ofree_lo hL hc i j v b) ?_ p
    intro i v b
    exact hf i v (g.2.2.2 _ _ _ b)
theorem norm_ofree (h : Norm L) : Norm (preOFree (2 * N) L) :=
  norm_rep (fun _ _ h => norm_rep (fun _ _ h => norm_rep (fun _ _ h => norm_leastO h _ _ _ _) h _) h _) (norm_odiag h) _
end

/-! ### 2. How great the ways are -/
theorem fwR_near {B : Bnd} {b : Nat} (h : ∀ i j v, B i j v → ∃ w, w ≤ v ∧ B i j w ∧ -(b : Int) ≤ w ∧ w ≤ b) :
    ∀ k i j v, fwR B k i j v → ∃ w, w ≤ v ∧ fwR B k i j w ∧ -((b * 2 ^ k : Nat) : Int) ≤ w ∧ w ≤ (b * 2 ^ k : Nat)
  | 0, i, j, v, q => by
    obtain ⟨w, h1, h2, h3, h4⟩ := h i j v q
    exact ⟨w, h1, h2, by simpa using h3, by simpa using h4⟩
  | k + 1, i, j, v, q => by
    have e : b * 2 ^ (k + 1) = b * 2 ^ k + b * 2 ^ k := by rw [Nat.pow_succ, ← Nat.mul_assoc]; omega
    rw [e]
    rcases q with q | ⟨u, x, q1, q2, hs⟩
    · obtain ⟨w, h1, h2, h3, h4⟩ := fwR_near h k i j v q
      exact ⟨w, h1, .inl h2, by omega, by omega⟩
    · obtain ⟨w1, a1, a2, a3, a4⟩ := fwR_near h k _ _ _ q1
      obtain ⟨w2, c1, c2, c3, c4⟩ := fwR_near h k _ _ _ q2
      exact ⟨w1 + w2, by omega, .inr ⟨w1, w2, a2, c2, Int.le_refl _⟩, by omega, by omega⟩
theorem bd_cut {n b : Nat} {L : List Cel} (h : Near b L) (i j : Nat) (v : Int) (q : Bd n L i j v) : ∃ w, w ≤ v ∧ Bd n L i j w ∧ -(b : Int) ≤ w ∧ w ≤ b := by
  have := h (i * n + j)
  exact ⟨(cg L (i * n + j)).most, q.2.2.2, ⟨q.1, q.2.1, q.2.2.1, Int.le_refl _⟩, by omega, by omega⟩
theorem near_of_bd {n b : Nat} {L : List Cel} (hL : L.length = n * n) (nL : Norm L) (h : ∀ i j v, Bd n L i j v → ∃ w, w ≤ v ∧ Bd n L i j w ∧ -(b : Int) ≤ w ∧ w ≤ b) : Near b L := by
  intro k
  by_cases hk : k < n * n
  · have hn : 0 < n := by
      rcases Nat.eq_zero_or_pos n with h | h
      · subst h; omega
      · exact h
    have hi : k / n < n := (Nat.div_lt_iff_lt_mul hn).2 hk
    have hj : k % n < n := Nat.mod_lt _ hn
    have e : k / n * n + k % n = k := by rw [Nat.mul_comm]; exact Nat.div_add_mod k n
    cases hh : (cg L k).has with
    | false => rw [nL k hh]; omega
    | true =>
      obtain ⟨w, h1, h2, h3, h4⟩ := h (k / n) (k % n) (cg L k).most ⟨hi, hj, by rw [e]; exact hh, by rw [e]; exact Int.le_refl _⟩
      have h5 := h2.2.2.2
      rw [e] at h5
      omega
  · rw [cg_out (by omega)]
    simp
theorem near_ofree {N b : Nat} {L : List Cel} (hL : L.length = 2 * N * (2 * N)) (hc : Coh (Bd (2 * N) L)) (nL : Norm L) (hn : Near b L) (hf : Fine (Bd (2 * N) (odiag (2 * N) L))) : Near (b * 2 ^ (2 * N)) (preOFree (2 * N) L) := by
  refine near_of_bd (ofree_good hL hc).1 (norm_ofree nL) fun i j v q => ?_
  have p := (ofree_path hL hc hf i j v).1 q
  have k := between (R := fwR (Bd (2 * N) (odiag (2 * N) L)) (2 * N)) (bd_over _ _) (fun _ _ _ b => b) (fun i v b => hf i v (fwR_path _ b)) p
  obtain ⟨w, h1, h2, h3, h4⟩ := fwR_near (bd_cut (near_odiag hn)) _ i j v k
  exact ⟨w, h1, (ofree_path hL hc hf i j w).2 (fwR_path _ h2), h3, h4⟩

/-! ### 3. Halved, tightened -/
def halfC (c : Cel) : Cel := if c.has = true then ⟨true, wrap64 (2 * (c.most / 2))⟩ else c
def halfI (n : Nat) (L : List Cel) (i : Nat) : List Cel := L.set (i * n + op i) (halfC (cg L (i * n + op i)))
def okH (n : Nat) (L : List Cel) (i : Nat) : Bool := !((cg L (i * n + op i)).has && (cg L (op i * n + i)).has && decide (wrap64 ((cg L (i * n + op i)).most + (cg L (op i * n + i)).most) < 0))
def strJ (n i : Nat) (L : List Cel) (j : Nat) : List Cel :=
  leastO n L i j ((cg L (i * n + op i)).has && (cg L (op j * n + j)).has && decide (i ≠ j)) (wrap64 ((cg L (i * n + op i)).most / 2 + (cg L (op j * n + j)).most / 2))
def strI (n : Nat) (L : List Cel) (i : Nat) : List Cel := rep (strJ n i) n L
def halved (n : Nat) (P : List Cel) : List Cel := rep (halfI n) n P
def strong (n : Nat) (H : List Cel) : List Cel := rep (strI n) n H
def tightO (n : Nat) (P : List Cel) : Option (List Cel) := if ((List.range n).all (okH n (halved n P))) = true then some ((strong n (halved n P)).map clipC) else none
def closeO (n : Nat) (L : List Cel) : Option (List Cel) := if okL n (preOct n L) = true then tightO n (preOct n L) else none

theorem halfI_length (n L i) : (halfI n L i).length = L.length := by simp [halfI]
theorem halved_length (n P) : (halved n P).length = P.length := rep_length (halfI_length n) n P
theorem cg_halved {n : Nat} {P : List Cel} (hP : P.length = n * n) (hn : ∀ i, i < n → op i < n) : ∀ q, q ≤ n → ∀ i j, i < n → j < n →
    cg (rep (halfI n) q P) (i * n + j) = if j = op i ∧ i < q then halfC (cg P (i * n + j)) else cg P (i * n + j)
  | 0, _, i, j, hi, hj => by rw [if_neg (by omega)]; rfl
  | q + 1, hq, i, j, hi, hj => by
    rw [rep_succ, halfI, cg_set, rep_length (halfI_length n), hP]
    have ix := idx_lt (n := n) (i := q) (j := op q) (by omega) (hn q (by omega))
    by_cases e : q * n + op q = i * n + j
    · obtain ⟨rfl, rfl⟩ := idx_inj (hn q (by omega)) hj e
      rw [if_pos ⟨rfl, ix⟩, cg_halved hP hn q (by omega) q (op q) hi hj, if_neg (by omega), if_pos ⟨rfl, by omega⟩]
    · rw [if_neg (fun h => e h.1), cg_halved hP hn q (by omega) i j hi hj]
      by_cases e2 : j = op i ∧ i < q + 1
      · have hq' : i < q := by
          rcases Nat.lt_or_ge i q with h | h
          · exact h
          · obtain rfl : i = q := by omega
            exact absurd (show i * n + op i = i * n + j by rw [e2.1]) e
        rw [if_pos e2, if_pos ⟨e2.1, hq'⟩]
      · rw [if_neg e2, if_neg (fun h => e2 ⟨h.1, by omega⟩)]
theorem halfC_val {c : Cel} (h : -4611686018427387904 ≤ c.most ∧ c.most ≤ 4611686018427387904) : halfC c = ⟨c.has, if c.has = true then 2 * (c.most / 2) else c.most⟩ := by
  unfold halfC
  rcases c with ⟨a, m⟩
  simp only at h
  cases a
  · rfl
  · simp only [if_true]
    rw [show wrap64 (2 * (m / 2)) = 2 * (m / 2) by unfold wrap64; omega]

section
variable {N : Nat} {P : List Cel} {D : Bnd} {c : Nat}
/-- Rows that hold the bounds D. -/
structure Holds (N : Nat) (P : List Cel) (D : Bnd) (c : Nat) : Prop where
  len : P.length = 2 * N * (2 * N)
  norm : Norm P
  near : Near (2 * c) P
  small : c ≤ 1152921504606846976
  bd : ∀ i j v, Bd (2 * N) P i j v ↔ D i j v
  coh : Coh D
theorem Holds.alone (h : Holds N P D c) {i : Nat} (hi : i < 2 * N) (x : Int) : Hf D i x ↔ (cg P (i * (2 * N) + op i)).has = true ∧ (cg P (i * (2 * N) + op i)).most / 2 ≤ x := by
  have h1 : op i < 2 * N := op_lt hi
  constructor
  · rintro ⟨v, a, b⟩
    have q := (h.bd _ _ _).2 a
    exact ⟨q.2.2.1, by have := q.2.2.2; omega⟩
  · rintro ⟨a, b⟩
    exact ⟨_, (h.bd _ _ _).1 ⟨hi, h1, a, Int.le_refl _⟩, b⟩
theorem Holds.half (h : Holds N P D c) {i j : Nat} (hi : i < 2 * N) (hj : j < 2 * N) : cg (halved (2 * N) P) (i * (2 * N) + j) = if j = op i then ⟨(cg P (i * (2 * N) + j)).has, if (cg P (i * (2 * N) + j)).has = true then 2 * ((cg P (i * (2 * N) + j)).most / 2) else (cg P (i * (2 * N) + j)).most⟩ else cg P (i * (2 * N) + j) := by
  have h1 := h.near (i * (2 * N) + j)
  have h2 := h.small
  rw [halved, cg_halved h.len (fun i hi => op_lt hi) _ (Nat.le_refl _) i j hi hj]
  by_cases e : j = op i
  · rw [if_pos ⟨e, hi⟩, if_pos e, halfC_val (by omega)]
  · rw [if_neg (fun q => e q.1), if_neg e]
theorem Holds.whole (h : Holds N P D c) : ((List.range (2 * N)).all (okH (2 * N) (halved (2 * N) P))) = true ↔ Whole D := by
  rw [List.all_eq_true]
  have key : ∀ i, i < 2 * N → (okH (2 * N) (halved (2 * N) P) i = true ↔ ∀ x y, Hf D i x → Hf D (op i) y → 0 ≤ x + y) := by
    intro i hi
    have hi' := op_lt hi
    have n1 := h.near (i * (2 * N) + op i)
    have n2 := h.near (op i * (2 * N) + i)
    have hs := h.small
    unfold okH
    rw [h.half hi hi', h.half hi' hi, if_pos rfl, if_pos (op_op i).symm]
    have a1 := h.alone hi
    have a2 := h.alone hi'
    rw [op_op] at a2
    generalize cg P (i * (2 * N) + op i) = x at *
    generalize cg P (op i * (2 * N) + i) = y at *
    rcases x with ⟨xa, xm⟩
    rcases y with ⟨ya, ym⟩
    simp only at n1 n2 a1 a2 ⊢
    constructor
    · intro q u v hu hv
      obtain ⟨rfl, hu⟩ := (a1 u).1 hu
      obtain ⟨rfl, hv⟩ := (a2 v).1 hv
      simp only [Bool.and_self, Bool.true_and, if_true, Bool.not_eq_true', decide_eq_false_iff_not] at q
      rw [show wrap64 (2 * (xm / 2) + 2 * (ym / 2)) = 2 * (xm / 2) + 2 * (ym / 2) by unfold wrap64; omega] at q
      omega
    · intro q
      cases xa
      · rfl
      cases ya
      · rfl
      have := q (xm / 2) (ym / 2) ((a1 _).2 ⟨rfl, Int.le_refl _⟩) ((a2 _).2 ⟨rfl, Int.le_refl _⟩)
      simp only [Bool.and_self, Bool.true_and, if_true, Bool.not_eq_true', decide_eq_false_iff_not]
      rw [show wrap64 (2 * (xm / 2) + 2 * (ym / 2)) = 2 * (xm / 2) + 2 * (ym / 2) by unfold wrap64; omega]
      omega
  constructor
  · intro q i x y hx hy
    have hi : i < 2 * N := by
      obtain ⟨v, a, _⟩ := hx
      exact ((h.bd _ _ _).2 a).1
    exact (key i hi).1 (q i (List.mem_range.2 hi)) x y hx hy
  · intro q i hi
    exact (key i (List.mem_range.1 hi)).2 (q i)

/-- While it is tightened. -/
structure InvT (N : Nat) (D : Bnd) (c : Nat) (L : List Cel) : Prop where
  len : L.length = 2 * N * (2 * N)
  norm : Norm L
  near : Near (2 * c) L
  lo : ∀ i x, Hf D i x → Bd (2 * N) L i (op i) (2 * x)
  hi : ∀ i j v, Bd (2 * N) L i j v → Ti D i j v
theorem InvT.alone {L : List Cel} (h : InvT N D c L) {i : Nat} (hi : i < 2 * N) (x : Int) : Hf D i x ↔ (cg L (i * (2 * N) + op i)).has = true ∧ (cg L (i * (2 * N) + op i)).most / 2 ≤ x := by
  constructor
  · intro q
    have a := h.lo i x q
    exact ⟨a.2.2.1, by have := a.2.2.2; omega⟩
  · rintro ⟨a, b⟩
    obtain ⟨g, p, hg⟩ := ti_alone i _ (h.hi i (op i) _ ⟨hi, op_lt hi, a, Int.le_refl _⟩)
    exact p.up (by omega)
def GoodT (N : Nat) (D : Bnd) (c : Nat) (f : List Cel → List Cel) : Prop := ∀ L : List Cel, InvT N D c L → InvT N D c (f L) ∧ ∀ i j v, Bd (2 * N) L i j v → Bd (2 * N) (f L) i j v
theorem GoodT.rep {m : Nat} {f : List Cel → Nat → List Cel} (h : ∀ x, x < m → GoodT N D c fun L => f L x) : ∀ k, k ≤ m → GoodT N D c (Rcn.rep f k)
  | 0, _ => fun L hL => ⟨hL, fun _ _ _ b => b⟩
  | k + 1, hk => fun L hL => by
    obtain ⟨a1, a2⟩ := GoodT.rep h k (by omega) L hL
    obtain ⟨b1, b2⟩ := h k (by omega) _ a1
    exact ⟨b1, fun i j v q => b2 _ _ _ (a2 _ _ _ q)⟩
theorem repT_tells {m : Nat} {f : List Cel → Nat → List Cel} (h : ∀ x, x < m → GoodT N D c fun L => f L x) {x : Nat} (hx : x < m) {L : List Cel} (hL : InvT N D c L) :
    ∃ M, InvT N D c M ∧ ∀ i j v, Bd (2 * N) (f M x) i j v → Bd (2 * N) (Rcn.rep f m L) i j v := by
  refine ⟨Rcn.rep f x L, (GoodT.rep h x (by omega) L hL).1, ?_⟩
  have key : ∀ k, x + 1 ≤ k → k ≤ m → ∀ i j v, Bd (2 * N) (f (Rcn.rep f x L) x) i j v → Bd (2 * N) (Rcn.rep f k L) i j v := by
    intro k hk
    induction hk with
    | refl => intro _ i j v b; exact b
    | @step m' hk ih =>
      intro hm i j v b
      rw [rep_succ]
      exact (h m' (by omega) _ (GoodT.rep h m' (by omega) L hL).1).2 _ _ _ (ih (by omega) _ _ _ b)
  exact key m (by omega) (Nat.le_refl _)
theorem goodT_J (hc : Coh D) (hs : c ≤ 1152921504606846976) {i j : Nat} (hi : i < 2 * N) (hj : j < 2 * N) : GoodT N D c fun L => strJ (2 * N) i L j := by
  intro L hL
  have n1 := hL.near (i * (2 * N) + op i)
  have n2 := hL.near (op j * (2 * N) + j)
  have a1 := hL.alone hi
  have a2 := hL.alone (op_lt hj)
  rw [op_op] at a2
  have e := bd_leastO hL.len hi hj ((cg L (i * (2 * N) + op i)).has && (cg L (op j * (2 * N) + j)).has && decide (i ≠ j)) (wrap64 ((cg L (i * (2 * N) + op i)).most / 2 + (cg L (op j * (2 * N) + j)).most / 2))
  have hw : wrap64 ((cg L (i * (2 * N) + op i)).most / 2 + (cg L (op j * (2 * N) + j)).most / 2) = (cg L (i * (2 * N) + op i)).most / 2 + (cg L (op j * (2 * N) + j)).most / 2 := by unfold wrap64; omega
  refine ⟨⟨by show (leastO _ _ _ _ _ _).length = _; rw [leastO_length]; exact hL.len, norm_leastO hL.norm _ _ _ _, near_leastO hL.near (fun _ => by rw [hw]; omega), fun k x q => (e _ _ _).2 (.inl (hL.lo k x q)), ?_⟩, fun a b v q => (e _ _ _).2 (.inl q)⟩
  intro a b v q0
  have new : ∀ v, ((cg L (i * (2 * N) + op i)).has && (cg L (op j * (2 * N) + j)).has && decide (i ≠ j)) = true → wrap64 ((cg L (i * (2 * N) + op i)).most / 2 + (cg L (op j * (2 * N) + j)).most / 2) ≤ v → Ti D i j v := by
    intro v q hv
    simp only [Bool.and_eq_true, decide_eq_true_eq] at q
    rw [hw] at hv
    exact .inr ⟨q.2, _, _, (a1 _).2 ⟨q.1.1, Int.le_refl _⟩, (a2 _).2 ⟨q.1.2, Int.le_refl _⟩, hv⟩
  rcases (e _ _ _).1 q0 with q | ⟨q, rfl, rfl, hv⟩ | ⟨q, rfl, rfl, hv⟩
  · exact hL.hi _ _ _ q
  · exact new v q hv
  · exact ti_coh hc _ _ _ (new v q hv)
theorem strJ_tells {i j : Nat} (hs : c ≤ 1152921504606846976) (hi : i < 2 * N) (hj : j < 2 * N) (hij : i ≠ j) {L : List Cel} (hL : InvT N D c L) {x y v : Int} (hx : Hf D i x) (hy : Hf D (op j) y) (hv : x + y ≤ v) : Bd (2 * N) (strJ (2 * N) i L j) i j v := by
  have n1 := hL.near (i * (2 * N) + op i)
  have n2 := hL.near (op j * (2 * N) + j)
  have a1 := (hL.alone hi x).1 hx
  have a2 := (hL.alone (op_lt hj) y).1 hy
  rw [op_op] at a2
  have hw : wrap64 ((cg L (i * (2 * N) + op i)).most / 2 + (cg L (op j * (2 * N) + j)).most / 2) = (cg L (i * (2 * N) + op i)).most / 2 + (cg L (op j * (2 * N) + j)).most / 2 := by unfold wrap64; omega
  refine (bd_leastO hL.len hi hj _ _ _ _ _).2 (.inr (.inl ⟨by simp [a1.1, a2.1, hij], rfl, rfl, ?_⟩))
  rw [hw]
  omega
theorem Holds.inv (h : Holds N P D c) : InvT N D c (halved (2 * N) P) := by
  refine ⟨by rw [halved_length]; exact h.len, ?_, ?_, ?_, ?_⟩
  · refine norm_rep (fun L k hL => ?_) h.norm _
    intro x
    rw [halfI, cg_set]
    split
    · unfold halfC
      split
      · simp
      · exact hL _
    · exact hL x
  · intro k
    by_cases hk : k < 2 * N * (2 * N)
    · have hn : 0 < 2 * N := by
        rcases Nat.eq_zero_or_pos (2 * N) with h | h
        · rw [h] at hk; omega
        · exact h
      have hi : k / (2 * N) < 2 * N := (Nat.div_lt_iff_lt_mul hn).2 hk
      have hj : k % (2 * N) < 2 * N := Nat.mod_lt _ hn
      have e : k / (2 * N) * (2 * N) + k % (2 * N) = k := by rw [Nat.mul_comm]; exact Nat.div_add_mod k (2 * N)
      have q := h.half hi hj
      rw [e] at q
      have hn := h.near k
      rw [q]
      split
      · simp only
        split <;> omega
      · exact hn
    · rw [cg_out (by rw [halved_length, h.len]; omega)]
      simp only
      omega
  · intro i x hx
    have hi : i < 2 * N := by
      obtain ⟨v, a, _⟩ := hx
      exact ((h.bd _ _ _).2 a).1
    have a := (h.alone hi x).1 hx
    refine ⟨hi, op_lt hi, ?_, ?_⟩
    · rw [h.half hi (op_lt hi), if_pos rfl]; exact a.1
    · rw [h.half hi (op_lt hi), if_pos rfl]
      simp only [a.1, if_true]
      omega
  · intro i j v q
    rw [Bd, ] at q
    obtain ⟨hi, hj, q1, q2⟩ := q
    rw [h.half hi hj] at q1 q2
    by_cases e : j = op i
    · rw [if_pos e] at q1 q2
      simp only at q1
      simp only [q1, if_true] at q2
      subst e
      have := (h.alone hi ((cg P (i * (2 * N) + op i)).most / 2)).2 ⟨q1, Int.le_refl _⟩
      exact .inr ⟨fun e => op_ne i e.symm, _, _, this, by rw [op_op]; exact this, by omega⟩
    · rw [if_neg e] at q1 q2
      exact .inl ((h.bd _ _ _).1 ⟨hi, hj, q1, q2⟩)
theorem Holds.lower (h : Holds N P D c) {i j : Nat} {v : Int} (q : D i j v) : Bd (2 * N) (halved (2 * N) P) i j v := by
  obtain ⟨hi, hj, q1, q2⟩ := (h.bd _ _ _).2 q
  refine ⟨hi, hj, ?_, ?_⟩
  · rw [h.half hi hj]
    split
    · exact q1
    · exact q1
  · rw [h.half hi hj]
    split
    · simp only; omega
    · exact q2
/-- Tightened: the tight bounds. -/
theorem Holds.strong (h : Holds N P D c) : InvT N D c (Rcn.strong (2 * N) (halved (2 * N) P)) ∧ ∀ i j v, Bd (2 * N) (Rcn.strong (2 * N) (halved (2 * N) P)) i j v ↔ Ti D i j v := by
  have hs := h.small
  have gI : ∀ i, i < 2 * N → GoodT N D c fun L => strI (2 * N) L i := fun i hi => GoodT.rep (fun j hj => goodT_J h.coh hs hi hj) _ (Nat.le_refl _)
  have g := GoodT.rep gI (2 * N) (Nat.le_refl _) _ h.inv
  refine ⟨g.1, fun i j v => ⟨g.1.hi i j v, ?_⟩⟩
  rintro (q | ⟨e, x, y, hx, hy, hv⟩)
  · exact g.2 _ _ _ (h.lower q)
  · have hi : i < 2 * N := by
      obtain ⟨v, a, _⟩ := hx
      exact ((h.bd _ _ _).2 a).1
    have hj : j < 2 * N := by
      obtain ⟨v, a, _⟩ := hy
      have := ((h.bd _ _ _).2 a).2.1
      rwa [op_op] at this
    obtain ⟨M, hM, t⟩ := repT_tells gI hi h.inv
    refine t _ _ _ ?_
    obtain ⟨M', hM', t'⟩ := repT_tells (f := strJ (2 * N) i) (fun j hj => goodT_J h.coh hs hi hj) hj hM
    exact t' _ _ _ (strJ_tells hs hi hj e hM' hx hy hv)
end

/-! ### 4. The whole -/
/-- What a row of bounds tells of ways. -/
abbrev WaysO (N : Nat) (L : List Cel) : Bnd := Path (Bd (2 * N) (odiag (2 * N) L))
section
variable {N b : Nat} {L : List Cel}
theorem pow_eight (hN : N ≤ 4) : 2 ^ (2 * N) ≤ 256 := by
  have : N = 0 ∨ N = 1 ∨ N = 2 ∨ N = 3 ∨ N = 4 := by omega
  rcases this with rfl | rfl | rfl | rfl | rfl <;> decide
theorem holds_of (hN : N ≤ 4) (hL : L.length = 2 * N * (2 * N)) (hc : Coh (Bd (2 * N) L)) (nL : Norm L) (hn : Near b L) (hb : b ≤ 1099511627776) (hf : Fine (Bd (2 * N) (odiag (2 * N) L))) :
    Holds N (preOFree (2 * N) L) (WaysO N L) (b * 128) := by
  have h1 := near_ofree hL hc nL hn hf
  have h2 := Nat.mul_le_mul_left b (pow_eight hN)
  exact ⟨(ofree_good hL hc).1, norm_ofree nL, near_mono h1 (by omega), by omega, ofree_path hL hc hf, (odiag_coh hL hc).path⟩
theorem preO_eq (hN : N ≤ 4) (hL : L.length = 2 * N * (2 * N)) (h : Near 1099511627776 L) : preOct (2 * N) L = preOFree (2 * N) L :=
  (preO_free (M := 4194304) hL h (cntO_four N hN) (by omega)).1
/-- The row of the tight bounds. -/
def tightL (N : Nat) (L : List Cel) : List Cel := strong (2 * N) (halved (2 * N) (preOFree (2 * N) L))
theorem closeO_eq (hN : N ≤ 4) (hL : L.length = 2 * N * (2 * N)) (hc : Coh (Bd (2 * N) L)) (nL : Norm L) (h : Near 1099511627776 L) :
    (Fine (Bd (2 * N) (odiag (2 * N) L)) ∧ Whole (WaysO N L) → closeO (2 * N) L = some ((tightL N L).map clipC)) ∧ (¬ (Fine (Bd (2 * N) (odiag (2 * N) L)) ∧ Whole (WaysO N L)) → closeO (2 * N) L = none) := by
  unfold closeO
  rw [preO_eq hN hL h]
  by_cases hf : Fine (Bd (2 * N) (odiag (2 * N) L))
  · rw [if_pos ((ook_fine hL hc).2 hf), tightO]
    have H := holds_of hN hL hc nL h (by omega) hf
    by_cases hw : Whole (WaysO N L)
    · rw [if_pos (H.whole.2 hw)]
      exact ⟨fun _ => rfl, fun q => absurd ⟨hf, hw⟩ q⟩
    · rw [if_neg (fun q => hw (H.whole.1 q))]
      exact ⟨fun q => absurd q.2 hw, fun _ => rfl⟩
  · rw [if_neg (fun q => hf ((ook_fine hL hc).1 q))]
    exact ⟨fun q => absurd q.1 hf, fun _ => rfl⟩
theorem tightL_inv (hN : N ≤ 4) (hL : L.length = 2 * N * (2 * N)) (hc : Coh (Bd (2 * N) L)) (nL : Norm L) (hn : Near b L) (hb : b ≤ 1099511627776) (hf : Fine (Bd (2 * N) (odiag (2 * N) L))) :
    InvT N (WaysO N L) (b * 128) (tightL N L) ∧ ∀ i j v, Bd (2 * N) (tightL N L) i j v ↔ Ti (WaysO N L) i j v := (holds_of hN hL hc nL hn hb hf).strong
end
end Go.Proofs.Rcn
namespace Go.Proofs.Rcn

/-- Each bound and that of the opposites are the same. -/
def CohL (n : Nat) (L : List Cel) : Prop := ∀ a, a < n → ∀ b, b < n → cg L (a * n + b) = cg L (op b * n + op a)
theorem CohL.coh {N : Nat} {L : List Cel} (h : CohL (2 * N) L) : Coh (Bd (2 * N) L) := by
  rintro i j v ⟨hi, hj, h1, h2⟩
  refine ⟨op_lt hj, op_lt hi, ?_, ?_⟩
  · rw [← h i hi j hj]; exact h1
  · rw [← h i hi j hj]; exact h2
theorem cohL_of {N : Nat} {L : List Cel} (nL : Norm L) (h : Coh (Bd (2 * N) L)) : CohL (2 * N) L := by
  intro a ha b hb
  have e1 := h a b
  have e2 := h (op b) (op a)
  rw [op_op, op_op] at e2
  have n1 := nL (a * (2 * N) + b)
  have n2 := nL (op b * (2 * N) + op a)
  unfold Bd at e1 e2
  simp only [ha, hb, op_lt ha, op_lt hb, true_and] at e1 e2
  rcases hc : cg L (a * (2 * N) + b) with ⟨x, m⟩
  rcases hd : cg L (op b * (2 * N) + op a) with ⟨y, k⟩
  rw [hc] at e1 e2 n1
  rw [hd] at e1 e2 n2
  simp only at e1 e2 n1 n2
  cases x <;> cases y
  · simp [n1 rfl, n2 rfl]
  · exact absurd (e2 k ⟨rfl, Int.le_refl _⟩).1 (by simp)
  · exact absurd (e1 m ⟨rfl, Int.le_refl _⟩).1 (by simp)
  · have h1 := (e1 m ⟨rfl, Int.le_refl _⟩).2
    have h2 := (e2 k ⟨rfl, Int.le_refl _⟩).2
    have : m = k := by omega
    rw [this]
theorem cohL_clip {N : Nat} {L : List Cel} (h : CohL (2 * N) L) : CohL (2 * N) (L.map clipC) := by
  intro a ha b hb
  rw [cg_clip, cg_clip, h a ha b hb]
section
variable {N : Nat} {L : List Cel} {D : Bnd}
/-- A row of right sizes. -/
structure RowO (N : Nat) (L : List Cel) : Prop where
  len : L.length = 2 * N * (2 * N)
  norm : Norm L
  near : Near 1099511627776 L
  coh : CohL (2 * N) L
/-- What it tells where something is left. -/
theorem closeO_some (hN : N ≤ 4) (R : RowO N L) {C : List Cel} (h : closeO (2 * N) L = some C) :
    RowO N C ∧ Shut (2 * N) (Ti (WaysO N L)) ∧ Whole (Ti (WaysO N L)) ∧ (∀ i j v, Bd (2 * N) C i j v → Ti (WaysO N L) i j v) ∧ (∀ i j v, Bd (2 * N) L i j v → Ti (WaysO N L) i j v) ∧ Fine (Bd (2 * N) (odiag (2 * N) L)) ∧ Whole (WaysO N L) ∧ C = (tightL N L).map clipC := by
  have e := closeO_eq hN R.len R.coh.coh R.norm R.near
  by_cases q : Fine (Bd (2 * N) (odiag (2 * N) L)) ∧ Whole (WaysO N L)
  · have e1 := e.1 q
    rw [h] at e1
    obtain rfl := Option.some.inj e1
    obtain ⟨h1, h2⟩ := tightL_inv hN R.len R.coh.coh R.norm R.near (by decide) q.1
    have T : Tight (2 * N) (Ti (WaysO N L)) := ti_tight (shut_path (bd_over _ _) (odiag_refl R.len) q.1) (odiag_coh R.len R.coh.coh).path q.2
    have hcT : Coh (Bd (2 * N) (tightL N L)) := by
      intro i j v b
      exact (h2 _ _ _).2 (T.coh _ _ _ ((h2 _ _ _).1 b))
    refine ⟨⟨by rw [List.length_map]; exact h1.len, norm_clip h1.norm, near_clip _, cohL_clip (cohL_of h1.norm hcT)⟩, T.shut, T.whole, fun i j v b => (h2 _ _ _).1 (bd_clip b), fun i j v b => ?_, q.1, q.2, rfl⟩
    exact .inl (.one ((bd_odiag R.len i j v).2 (.inl b)))
  · rw [e.2 q] at h
    cases h
end
end Go.Proofs.Rcn
