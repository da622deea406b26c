import Derived.Test.YtcalcnfppnbooaaDoorOxRefO
/- Plain law: the reference's closing of an octagon: where there is a point of whole numbers the sweeps come to the tight bounds, where there is none they show it. No program. -/
set_option linter.unusedVariables false
namespace Go.Proofs.Rcn
open Go.RowKit (wrap64)

/-! ### 4. A point -/
def mnC (n : Nat) (C : List Cel) (j : Nat) : Nat → Int
  | 0 => 0
  | k + 1 => min (mnC n C j k) (if (cg C (k * n + j)).has = true then (cg C (k * n + j)).most else 0)
theorem mnC_le {n : Nat} {C : List Cel} {j : Nat} : ∀ k, mnC n C j k ≤ 0 ∧ ∀ i, i < k → (cg C (i * n + j)).has = true → mnC n C j k ≤ (cg C (i * n + j)).most
  | 0 => ⟨Int.le_refl _, fun i h => absurd h (by omega)⟩
  | k + 1 => by
    have ih := mnC_le (n := n) (C := C) (j := j) k
    simp only [mnC]
    refine ⟨by omega, fun i hi hh => ?_⟩
    rcases Nat.lt_or_ge i k with h | h
    · have := ih.2 i h hh
      omega
    · obtain rfl : i = k := by omega
      rw [if_pos hh]
      omega
theorem mnC_is {n : Nat} {C : List Cel} {j : Nat} : ∀ k, mnC n C j k = 0 ∨ ∃ i, i < k ∧ (cg C (i * n + j)).has = true ∧ mnC n C j k = (cg C (i * n + j)).most
  | 0 => .inl rfl
  | k + 1 => by
    have ih := mnC_is (n := n) (C := C) (j := j) k
    have h0 := (mnC_le (n := n) (C := C) (j := j) k).1
    simp only [mnC]
    by_cases hh : (cg C (k * n + j)).has = true
    · rw [if_pos hh]
      by_cases hm : (cg C (k * n + j)).most ≤ mnC n C j k
      · exact .inr ⟨k, by omega, hh, by omega⟩
      · rcases ih with e | ⟨i, hi, h1, e⟩
        · exact .inl (by omega)
        · exact .inr ⟨i, by omega, h1, by omega⟩
    · rw [if_neg hh]
      rcases ih with e | ⟨i, hi, h1, e⟩
      · exact .inl (by omega)
      · exact .inr ⟨i, by omega, h1, by omega⟩
theorem potential {n : Nat} {B : Bnd} {C : List Cel} {K : Nat} (ho : Over n B) (hC : ∀ i j v, Bd n C i j v ↔ Path B i j v) (hK : Near K C) : ∃ q : Nat → Int, Sat B q ∧ ∀ j, -(K : Int) ≤ q j ∧ q j ≤ 0 := by
  refine ⟨fun j => mnC n C j n, fun i j v b => ?_, fun j => ?_⟩
  · have hij := ho.inn _ _ _ b
    have h1 := mnC_le (n := n) (C := C) (j := j) n
    simp only
    rcases mnC_is (n := n) (C := C) (j := i) n with e | ⟨k, hk, hh, e⟩
    · have a := (hC i j v).2 (.one b)
      have c := h1.2 i hij.1 a.2.2.1
      have d := a.2.2.2
      omega
    · have p := (hC k i _).1 ⟨hk, hij.1, hh, Int.le_refl _⟩
      have q := (hC k j _).2 (.two p (.one b) (Int.le_refl _))
      have c := h1.2 k hk q.2.2.1
      have d := q.2.2.2
      omega
  · have h1 := (mnC_le (n := n) (C := C) (j := j) n).1
    simp only
    rcases mnC_is (n := n) (C := C) (j := j) n with e | ⟨k, hk, hh, e⟩
    · omega
    · have := hK (k * n + j)
      omega

/-! ### 5. Which bounds there are -/
def Su (W : Bnd) (i j : Nat) : Prop := ∃ v, Ti W i j v
section
variable {n : Nat} {W : Bnd}
theorem su_fin (S : Shut n W) {i j : Nat} {h g : Int} (p : Hf W i h) (q : Hf W (op j) g) : Su W i j := by
  by_cases e : i = j
  · subst e
    obtain ⟨v, a, _⟩ := p
    exact ⟨0, .inl (S.refl i (S.over.inn _ _ _ a).1)⟩
  · exact ⟨h + g, .inr ⟨e, h, g, p, q, Int.le_refl _⟩⟩
theorem su_alone {i : Nat} (h : Su W i (op i)) : ∃ x, Hf W i x := by
  obtain ⟨v, t⟩ := h
  obtain ⟨x, p, _⟩ := ti_alone i v t
  exact ⟨x, p⟩
theorem su_tri (S : Shut n W) (hc : Coh W) {i k j : Nat} : Su W i k → Su W k j → Su W i j := by
  rintro ⟨u, a | ⟨_, h, g, p, q, _⟩⟩ ⟨w, b | ⟨_, h', g', p', q', _⟩⟩
  · exact ⟨_, .inl (S.tri _ _ _ _ _ a b)⟩
  · exact su_fin S (hf_step S hc a p') q'
  · exact su_fin S p (hf_step S hc (hc _ _ _ b) q)
  · exact su_fin S p q'
theorem su_two (S : Shut n W) {i j : Nat} (h1 : Su W i (op i)) (h2 : Su W (op j) j) : Su W i j := by
  obtain ⟨x, p⟩ := su_alone h1
  obtain ⟨y, q⟩ := su_alone (W := W) (i := op j) (by rw [op_op]; exact h2)
  exact su_fin S p q
theorem cl_su (S : Shut n W) (hc : Coh W) : Cl fun i j _ => Su W i j :=
  ⟨fun _ _ h => h, fun _ _ _ _ h1 h2 => su_two S h1 h2, fun _ _ _ _ _ h1 h2 => su_tri S hc h1 h2, fun _ _ _ _ h _ => h⟩
theorem cl_ti (S : Shut n W) (hc : Coh W) (hw : Whole W) : Cl (Ti W) where
  t1 := fun i v h => by
    obtain ⟨x, p, hx⟩ := ti_alone i v h
    exact (ti_over S).up _ _ _ _ (ti_even p) (by omega)
  t2 := fun i j u w h1 h2 => by
    by_cases e : i = j
    · subst e
      obtain ⟨x, p, hx⟩ := ti_alone i u h1
      obtain ⟨y, q, hy⟩ := ti_alone (op i) w (by rw [op_op]; exact h2)
      have := hw i x y p q
      obtain ⟨v, a, _⟩ := p
      exact .inl (S.over.up _ _ _ _ (S.refl i (S.over.inn _ _ _ a).1) (by omega))
    · obtain ⟨v, a, hv⟩ := ti_strong e h1 h2
      exact (ti_over S).up _ _ _ _ a (by omega)
  tj := fun i j k u w h1 h2 => ti_tri S hc hw i k j u w h1 h2
  up := (ti_over S).up
end

/-- From a point: no bound is much below what it says. -/
def LowP (n : Nat) (P : Nat → Int) (c : List Nat) (L : List Cel) : Prop := ∀ i j v, Bd n L i j v → P j - P i - 2 * (ct c (i * n + j) : Int) ≤ 2 * v
theorem los_low {n : Nat} (hop : ∀ i, i < n → op i < n) {P : Nat → Int} (hP : ∀ i, P (op i) = - P i) : LoS n (LowP n P) where
  t1 := fun c L i hi hL hc h a b v q => by
    have m := (cT1_le n c i).2 (a * n + b)
    rcases (bd_least hL hi (hop i hi) _ _ _ _ _).1 q with q | ⟨e, rfl, rfl, hv⟩
    · have := h _ _ _ q
      omega
    · have e1 : ct (cT1 n c a) (a * n + op a) = ct c (a * n + op a) + 1 := by
        unfold cT1; rw [ct_set, if_pos ⟨rfl, by rw [hc]; exact idx_lt hi (hop _ hi)⟩]
      have := h _ _ _ ⟨hi, hop _ hi, e, Int.le_refl _⟩
      omega
  t2 := fun c L i j hi hj hL hc h a b v q => by
    have m := (cT2_le n i c j).2 (a * n + b)
    rcases (bd_least hL hi hj _ _ _ _ _).1 q with q | ⟨e, rfl, rfl, hv⟩
    · have := h _ _ _ q
      omega
    · simp only [Bool.and_eq_true] at e
      have e1 : ct (cT2 n a c b) (a * n + b) = max (ct c (a * n + b)) ((ct c (a * n + op a) + ct c (op b * n + b)) / 2 + 1) := by
        unfold cT2; rw [ct_set, if_pos ⟨rfl, by rw [hc]; exact idx_lt hi hj⟩]
      have h1 := h _ _ _ ⟨hi, hop _ hi, e.1, Int.le_refl _⟩
      have h2 := h _ _ _ ⟨hop _ hj, hj, e.2, Int.le_refl _⟩
      have p1 := hP a
      have p2 := hP b
      omega
  tj := fun c L i j k hi hj hk hL hc h a b v q => by
    have m := (cntJ_le n k i c j).2 (a * n + b)
    rcases (bd_least hL hi hj _ _ _ _ _).1 q with q | ⟨e, rfl, rfl, hv⟩
    · have := h _ _ _ q
      omega
    · simp only [Bool.and_eq_true] at e
      have e1 : ct (cntJ n k a c b) (a * n + b) = max (ct c (a * n + b)) (ct c (a * n + k) + ct c (k * n + b)) := by
        unfold cntJ; rw [ct_set, if_pos ⟨rfl, by rw [hc]; exact idx_lt hi hj⟩]
      have h1 := h _ _ _ ⟨hi, hk, e.1, Int.le_refl _⟩
      have h2 := h _ _ _ ⟨hk, hj, e.2, Int.le_refl _⟩
      omega

/-! ### 6. Sweeps behind the first ones: no bound is new between two that are told -/
structure IU (n : Nat) (W : Bnd) (U : Nat) (L : List Cel) : Prop where
  len : L.length = n * n
  norm : Norm L
  su : ∀ i j v, Bd n L i j v → Su W i j
  w : ∀ i j v, W i j v → Bd n L i j v
  up : ∀ i j v, Bd n L i j v → Bd n L i j U
section
variable {n U M : Nat} {W : Bnd} {L : List Cel} {Lo : List Nat → List Cel → Prop}
theorem IU.least (h : IU n W U L) {a b : Nat} (ha : a < n) (hb : b < n) {has : Bool} {m : Int} (hs : has = true → Su W a b) (hm : has = true → m ≤ U ∨ Bd n L a b U) : IU n W U (leastL L (a * n + b) has m) := by
  have e := fun i j v => bd_least h.len ha hb has m i j v
  refine ⟨by rw [leastL_length]; exact h.len, norm_least h.norm _ _ _, fun i j v q => ?_, fun i j v q => (e _ _ _).2 (.inl (h.w _ _ _ q)), fun i j v q => ?_⟩
  · rcases (e _ _ _).1 q with q | ⟨r, rfl, rfl, _⟩
    · exact h.su _ _ _ q
    · exact hs r
  · rcases (e _ _ _).1 q with q | ⟨r, rfl, rfl, _⟩
    · exact (e _ _ _).2 (.inl (h.up _ _ _ q))
    · rcases hm r with q2 | q2
      · exact (e _ _ _).2 (.inr ⟨r, rfl, rfl, q2⟩)
      · exact (e _ _ _).2 (.inl q2)
/-- Sizes of what is told. -/
theorem IU.size (h : IU n W U L) (hlo : ∀ i j v, Bd n L i j v → -(U : Int) ≤ v) {i j : Nat} (hi : i < n) (hj : j < n) : -(U : Int) ≤ (cg L (i * n + j)).most ∧ (cg L (i * n + j)).most ≤ U := by
  cases hh : (cg L (i * n + j)).has with
  | false => rw [h.norm _ hh]; omega
  | true =>
    have b : Bd n L i j (cg L (i * n + j)).most := ⟨hi, hj, hh, Int.le_refl _⟩
    exact ⟨hlo _ _ _ b, (h.up _ _ _ b).2.2.2⟩
theorem simU (hop : ∀ i, i < n → op i < n) (S : Shut n W) (hc : Coh W) (hU : 2 * U ≤ 9223372036854775807) (H : LoS n Lo) (hlow : ∀ c L, Lo c L → (∀ m, ct c m ≤ M) → ∀ i j v, Bd n L i j v → -(U : Int) ≤ v) (m : Nat) :
    SimI (fun c L => c.length = n * n ∧ IU n W U L ∧ Lo c L) M m (fun L _ => woS n L) (fun L _ => foS n L) (fun c _ => coS n c) := by
  refine simI_sweep (fun c L i hi hI hM => ?_) (fun i hi c L j hj hI hM => ?_) m
  · obtain ⟨hcl, hI, hLo⟩ := hI
    refine ⟨by rw [← (cT1_le n c i).1]; exact hcl, hI.least hi (hop i hi) (fun q => hI.su _ _ _ ⟨hi, hop i hi, q, Int.le_refl _⟩) (fun q => .inl ?_), H.t1 c L i hi hI.len hcl hLo⟩
    have := (hI.up _ _ _ ⟨hi, hop i hi, q, Int.le_refl _⟩).2.2.2
    omega
  · obtain ⟨hcl, hI, hLo⟩ := hI
    have hM2 : ∀ m, ct (cT2 n i c j) m ≤ M := fun m => Nat.le_trans ((cswJ_le n i _ j).2 m) (hM m)
    have hlo := hlow c L hLo (fun m => Nat.le_trans ((cT2_le n i c j).2 m) (hM2 m))
    have a1 := hI.size hlo hi (hop i hi)
    have a2 := hI.size hlo (hop j hj) hj
    have hwr : wrap64 ((cg L (i * n + op i)).most + (cg L (op j * n + j)).most) = (cg L (i * n + op i)).most + (cg L (op j * n + j)).most := by
      unfold wrap64; omega
    have e2 : wT2 n i L j = fT2 n i L j := by unfold wT2 fT2; rw [hwr]
    have hI2 : IU n W U (fT2 n i L j) := by
      refine hI.least hi hj (fun q => ?_) (fun q => .inl (by omega))
      simp only [Bool.and_eq_true] at q
      exact su_two S (hI.su _ _ _ ⟨hi, hop i hi, q.1, Int.le_refl _⟩) (hI.su _ _ _ ⟨hop j hj, hj, q.2, Int.le_refl _⟩)
    have hE : Su W i j → Bd n (fT2 n i L j) i j U := by
      rintro ⟨v, a | ⟨_, h, g, ⟨x, p, _⟩, ⟨y, q, _⟩, _⟩⟩
      · exact (up_T2 hi hj L hI.len).2 _ _ _ (hI.up _ _ _ (hI.w _ _ _ a))
      · rw [op_op] at q
        exact T2_tells hi hj hI.len (hI.up _ _ _ (hI.w _ _ _ p)) (hI.up _ _ _ (hI.w _ _ _ q)) (by omega)
    have hs : SimI (fun c L => (c.length = n * n ∧ IU n W U L ∧ Lo c L) ∧ (Su W i j → Bd n L i j U)) M n (fun M k => closeJ n k i M j) (fun M k => freeJ n k i M j) (fun d k => cntJ n k i d j) := by
      intro c L k hk hI hM
      obtain ⟨⟨hcl, hI, hLo⟩, hE⟩ := hI
      have hlo := hlow c L hLo (fun m => Nat.le_trans ((cntJ_le n k i c j).2 m) (hM m))
      have b1 := hI.size hlo hi hk
      have b2 := hI.size hlo hk hj
      have hwr : wrap64 ((cg L (i * n + k)).most + (cg L (k * n + j)).most) = (cg L (i * n + k)).most + (cg L (k * n + j)).most := by unfold wrap64; omega
      have hsu : ((cg L (i * n + k)).has && (cg L (k * n + j)).has) = true → Su W i j := fun q => by
        simp only [Bool.and_eq_true] at q
        exact su_tri S hc (hI.su _ _ _ ⟨hi, hk, q.1, Int.le_refl _⟩) (hI.su _ _ _ ⟨hk, hj, q.2, Int.le_refl _⟩)
      exact ⟨by show closeJ n k i L j = freeJ n k i L j; unfold closeJ freeJ; rw [hwr], ⟨by rw [← (cntJ_le n k i c j).1]; exact hcl, hI.least hi hj hsu (fun q => .inr (hE (hsu q))), H.tj c L i j k hi hj hk hI.len hcl hLo⟩, fun q => (up_J (k := k) hi hj L hI.len).2 _ _ _ (hE q)⟩
    have t := hs.rep (fun d k => cntJ_le n k i d j) ⟨⟨by rw [← (cT2_le n i c j).1]; exact hcl, hI2, H.t2 c L i j hi hj hI.len hcl hLo⟩, hE⟩ n (Nat.le_refl _) hM
    refine ⟨?_, t.2.1⟩
    show swJ n i (wT2 n i L j) j = fswJ n i (fT2 n i L j) j
    rw [e2]
    exact t.1
end

theorem rep_add {α : Type} (f : α → α) (a b : Nat) (x : α) : rep (fun M _ => f M) (a + b) x = rep (fun M _ => f M) b (rep (fun M _ => f M) a x) := by
  induction b with
  | zero => rfl
  | succ b ih => rw [show a + (b + 1) = a + b + 1 by omega, rep_succ, rep_succ, ih]
theorem ct_top (c : List Nat) : ∃ M, ∀ m, ct c m ≤ M := by
  induction c with
  | nil => exact ⟨0, fun m => by simp [ct]⟩
  | cons a c ih =>
    obtain ⟨M, h⟩ := ih
    refine ⟨a + M, fun m => ?_⟩
    cases m with
    | zero => simp [ct]
    | succ m =>
      have := h m
      simp only [ct, List.getD_cons_succ] at this ⊢
      omega
/-! ### 7. What the sweeps come to -/
/-- The first sweeps are counted. -/
theorem first_exact {n b M T : Nat} {L : List Cel} {Lo : List Nat → List Cel → Prop} (hop : ∀ i, i < n → op i < n) (hL : L.length = n * n) (hn : Near b L) (hb1 : 1 ≤ b) (hb : 2 * (b * M) ≤ 9223372036854775807) (hM : ∀ m, ct (coT n T (List.replicate (n * n) 1)) m ≤ M) (H : LoS n Lo) (h0 : Lo (List.replicate (n * n) 1) L) :
    ∀ t, t ≤ T → woT n t L = foT n t L ∧ Within b (coT n t (List.replicate (n * n) 1)) (foT n t L) ∧ (coT n t (List.replicate (n * n) 1)).length = n * n ∧ Lo (coT n t (List.replicate (n * n) 1)) (foT n t L) := by
  have hw : Within b (List.replicate (n * n) 1) L := by
    intro k
    rw [ct_replicate]
    split
    · have := hn k
      omega
    · rw [cg_out (by rw [hL]; omega)]
      simp
  intro t ht
  have r := (simN (M := M) hop hb1 hb H T).rep (fun c _ => coS_le n c) ⟨⟨hL, by simp, hw⟩, h0⟩ t ht (fun m => Nat.le_trans ((rep_le (f := fun d _ => coS n d) (fun c _ => coS_le n c) ht).2 m) (hM m))
  exact ⟨r.1, r.2.1.2.2, r.2.1.2.1, r.2.2⟩
section
variable {N b : Nat} {L : List Cel}
def c8_1 : List Nat := [4, 8, 10, 12, 14, 16, 18, 20, 8, 32, 51, 53, 55, 57, 59, 61, 11, 52, 206, 312, 364, 366, 368, 370, 14, 55, 313, 1250, 1928, 1930, 1932, 1934, 16, 57, 365, 1928, 7712, 11571, 13500, 13502, 19, 60, 368, 1931, 11572, 46286, 71359, 71361, 21, 62, 370, 1933, 13501, 71359, 285436, 428157, 24, 65, 373, 1936, 13504, 71362, 428158, 1712630]
def c8_2 : List Nat := [44, 86, 450, 2012, 13586, 71443, 499603, 2640390, 86, 344, 1086, 3692, 21728, 118159, 785469, 4353450, 450, 1086, 4344, 10372, 34870, 169875, 1076335, 6071510, 2014, 3694, 10374, 41492, 94448, 268027, 1413637, 7836006, 13586, 21728, 34870, 94446, 377788, 786547, 2171307, 10020870, 71445, 118161, 169877, 268027, 786549, 3146192, 6389484, 15666241, 499603, 785469, 1076335, 1413635, 2171307, 6389482, 25557932, 49326285, 2640392, 4353452, 6071512, 7836006, 10020872, 15666241, 49326287, 197305144]
def c8_3 : List Nat := [5280782, 6993842, 8787235, 10476396, 12661262, 18306631, 58998779, 305630208, 6993842, 27975368, 43760789, 45487098, 48008260, 56422033, 119525921, 537904562, 8787234, 43760788, 175043154, 264332532, 307980483, 311913222, 363887795, 954013648, 10476398, 45487100, 264332535, 1057330134, 1630020940, 1636722083, 1711108396, 2472981461, 12661262, 48008260, 307980484, 1630020938, 6520083756, 9789972969, 11465291317, 11711922746, 18306633, 56422035, 311913226, 1636722084, 9789972972, 39159891882, 60440714103, 60859092744, 58998779, 119525921, 363887796, 1711108394, 11465291318, 60440714101, 241762856408, 363259968397, 305630211, 537904565, 954013652, 2472981462, 11711922750, 60859092745, 363259968400, 1453039873594]
def c8_4 : List Nat := [611260419, 843534773, 1340237228, 2778611670, 12448098048, 61397962899, 424425868414, 2240725710405, 843534773, 3374139092, 5732954247, 8053615669, 23185855669, 104775528646, 670406398687, 3697983257864, 1340237227, 5732954246, 22931816986, 37775717035, 58370710657, 172600191760, 940834026327, 5179687902690, 2778611672, 8053615671, 37775717038, 151102868146, 253769379597, 400638668826, 1371475467919, 6821606361468, 12448098047, 23185855668, 58370710657, 253769379594, 1015077518382, 1708645458684, 2882085222303, 9543493133038, 61397962902, 104775528649, 172600191764, 400638668827, 1708645458688, 6834581834744, 11667075372143, 19539760300064, 424425868413, 670406398686, 940834026327, 1371475467916, 2882085222303, 11667075372139, 46668301488564, 79328177034361, 2240725710408, 3697983257867, 5179687902694, 6821606361469, 9543493133042, 19539760300064, 79328177034365, 317312708137452]
set_option maxRecDepth 100000 in
theorem c8_1_eq : coS 8 (List.replicate (8 * 8) 1) = c8_1 := by decide +kernel
set_option maxRecDepth 100000 in
theorem c8_2_eq : coS 8 c8_1 = c8_2 := by decide +kernel
set_option maxRecDepth 100000 in
theorem c8_3_eq : coS 8 c8_2 = c8_3 := by decide +kernel
set_option maxRecDepth 100000 in
theorem c8_4_eq : coS 8 c8_3 = c8_4 := by decide +kernel
theorem coT_3 (n : Nat) (c : List Nat) : coT n 3 c = coS n (coS n (coS n c)) := rfl
theorem coT_4 (n : Nat) (c : List Nat) : coT n 4 c = coS n (coS n (coS n (coS n c))) := rfl
theorem cntT_three : ∀ N, N ≤ 4 → ∀ m, ct (coT (2 * N) 3 (List.replicate (2 * N * (2 * N)) 1)) m ≤ 1500000000000 := by
  intro N hN
  obtain ⟨n, hn⟩ : ∃ n, n = 2 * N := ⟨_, rfl⟩
  rw [← hn]
  have : n = 0 ∨ n = 2 ∨ n = 4 ∨ n = 6 ∨ n = 8 := by omega
  clear hn hN
  rcases this with rfl | rfl | rfl | rfl | rfl
  · exact ct_le_of (by decide +kernel)
  · exact ct_le_of (by decide +kernel)
  · exact ct_le_of (by decide +kernel)
  · exact ct_le_of (by decide +kernel)
  · rw [coT_3, c8_1_eq, c8_2_eq, c8_3_eq]
    exact ct_le_of (by decide +kernel)
theorem cntT_four : ∀ N, N ≤ 4 → ∀ m, ct (coT (2 * N) 4 (List.replicate (2 * N * (2 * N)) 1)) m ≤ 400000000000000 := by
  intro N hN
  obtain ⟨n, hn⟩ : ∃ n, n = 2 * N := ⟨_, rfl⟩
  rw [← hn]
  have : n = 0 ∨ n = 2 ∨ n = 4 ∨ n = 6 ∨ n = 8 := by omega
  clear hn hN
  rcases this with rfl | rfl | rfl | rfl | rfl
  · exact ct_le_of (by decide +kernel)
  · exact ct_le_of (by decide +kernel)
  · exact ct_le_of (by decide +kernel)
  · exact ct_le_of (by decide +kernel)
  · rw [coT_4, c8_1_eq, c8_2_eq, c8_3_eq, c8_4_eq]
    exact ct_le_of (by decide +kernel)
theorem hop2 {N : Nat} : ∀ i, i < 2 * N → op i < 2 * N := fun i hi => op_lt hi
/-- Where it is fine, three sweeps tell all ways. -/
theorem cover_three (hN : N ≤ 4) {X : List Cel} (hX : X.length = 2 * N * (2 * N)) (hf : Fine (Bd (2 * N) X)) {i j : Nat} {v : Int} (p : Path (Bd (2 * N) X) i j v) : Bd (2 * N) (foT (2 * N) 3 X) i j v := by
  obtain ⟨l, q⟩ := walk_of p
  obtain ⟨l', q', hl⟩ := Walk.short (bd_over _ _) hf l.length l i j v (Nat.le_refl _) q
  exact foT_walk hop2 hX 3 _ _ _ _ q' (by omega)
/-- Where it is not fine, three sweeps show it. -/
theorem round_three (hN : N ≤ 4) {X : List Cel} (hX : X.length = 2 * N * (2 * N)) (hf : ¬ Fine (Bd (2 * N) X)) : ∃ i, i < 2 * N ∧ (cg (foT (2 * N) 3 X) (i * (2 * N) + i)).most < 0 := by
  have : ∃ i v, Path (Bd (2 * N) X) i i v ∧ v < 0 := Classical.byContradiction fun q => hf fun i v p => by
    rcases Int.lt_or_le v 0 with h | h
    · exact absurd ⟨i, v, p, h⟩ q
    · exact h
  obtain ⟨i, v, p, hv⟩ := this
  obtain ⟨l, q⟩ := walk_of p
  obtain ⟨x, l', v', q', hv', hl⟩ := neg_short (bd_over _ _) l.length l i v (Nat.le_refl _) q hv
  have t := foT_walk hop2 hX 3 _ _ _ _ q' (by omega)
  exact ⟨x, t.1, by have := t.2.2.2; omega⟩
variable (hL : L.length = 2 * N * (2 * N)) (hc : Coh (Bd (2 * N) L)) (nL : Norm L) (hn : Near b L) (hb1 : 1 ≤ b)
include hL hc nL hn hb1
/-- Some point: so many sweeps, and two, tell the tight bounds; one more changes nothing. -/
theorem refO_some {T M : Nat} (hb : 2 * (b * M) ≤ 9223372036854775807) (hM : ∀ m, ct (coT (2 * N) T (List.replicate (2 * N * (2 * N)) 1)) m ≤ M) (hM1 : b * 2 ^ (2 * N) * 3 ≤ b * M)
    (hf : Fine (Bd (2 * N) (odiag (2 * N) L))) (hw : Whole (WaysO N L)) (hcov : ∀ i j v, WaysO N L i j v → Bd (2 * N) (foT (2 * N) T (odiag (2 * N) L)) i j v) :
    ∃ C, C = woT (2 * N) (T + 2) (odiag (2 * N) L) ∧ C.length = 2 * N * (2 * N) ∧ Norm C ∧ (∀ i j v, Bd (2 * N) C i j v ↔ Ti (WaysO N L) i j v) ∧ woS (2 * N) C = C ∧
      ∀ t, t ≤ T + 2 → ∀ i, i < 2 * N → 0 ≤ (cg (woT (2 * N) t (odiag (2 * N) L)) (i * (2 * N) + i)).most := by
  have S : Shut (2 * N) (WaysO N L) := shut_path (bd_over _ _) (odiag_refl hL) hf
  have cW : Coh (WaysO N L) := (odiag_coh hL hc).path
  have hX : (odiag (2 * N) L).length = 2 * N * (2 * N) := by rw [odiag_length]; exact hL
  have H : LoS (2 * N) fun c L' => Norm L' ∧ ∀ i j v, Bd (2 * N) L' i j v → Ti (WaysO N L) i j v := (LoS.norm _).and (LoS.of hop2 (cl_ti S cW hw))
  have h0 : Norm (odiag (2 * N) L) ∧ ∀ i j v, Bd (2 * N) (odiag (2 * N) L) i j v → Ti (WaysO N L) i j v := ⟨norm_odiag nL, fun i j v q => .inl (.one q)⟩
  have F := first_exact hop2 hX (near_odiag hn) hb1 hb hM H h0
  have fT := F T (Nat.le_refl _)
  have hlow : ∀ i j v, Ti (WaysO N L) i j v → -((b * M : Nat) : Int) ≤ v := by
    have nf := near_ofree hL hc nL hn hf
    have lw : ∀ i j v, WaysO N L i j v → -((b * 2 ^ (2 * N) : Nat) : Int) ≤ v := fun i j v p => by
      have q := (ofree_path hL hc hf i j v).2 p
      have := nf (i * (2 * N) + j)
      have := q.2.2.2
      omega
    rintro i j v (p | ⟨_, h, g, ⟨x, p, hx⟩, ⟨y, q, hy⟩, hs⟩)
    · have := lw _ _ _ p
      omega
    · have := lw _ _ _ p
      have := lw _ _ _ q
      omega
  have hU : IU (2 * N) (WaysO N L) (b * M) (foT (2 * N) T (odiag (2 * N) L)) := by
    refine ⟨(up_foT hop2 T _ hX).1, fT.2.2.2.1, fun i j v q => ⟨v, fT.2.2.2.2 _ _ _ q⟩, hcov, fun i j v q => ⟨q.1, q.2.1, q.2.2.1, ?_⟩⟩
    have h1 := fT.2.1 (i * (2 * N) + j)
    have h2 := Nat.mul_le_mul_left b (hM (i * (2 * N) + j))
    omega
  obtain ⟨M', hM'⟩ := ct_top (rep (fun d _ => coS (2 * N) d) 3 (coT (2 * N) T (List.replicate (2 * N * (2 * N)) 1)))
  have G := fun k (hk : k ≤ 3) => (simU (M := M') (Lo := fun _ L' => Norm L' ∧ ∀ i j v, Bd (2 * N) L' i j v → Ti (WaysO N L) i j v) hop2 S cW hb H (fun c L' h _ i j v q => hlow _ _ _ (h.2 _ _ _ q)) 3).rep (fun c _ => coS_le _ c) (c := coT (2 * N) T (List.replicate (2 * N * (2 * N)) 1)) ⟨fT.2.2.1, hU, fT.2.2.2⟩ k hk (fun m => Nat.le_trans ((rep_le (f := fun d _ => coS (2 * N) d) (fun c _ => coS_le (2 * N) c) hk).2 m) (hM' m))
  have E : ∀ t, t ≤ T + 3 → woT (2 * N) t (odiag (2 * N) L) = foT (2 * N) t (odiag (2 * N) L) ∧ Norm (foT (2 * N) t (odiag (2 * N) L)) ∧ ∀ i j v, Bd (2 * N) (foT (2 * N) t (odiag (2 * N) L)) i j v → Ti (WaysO N L) i j v := by
    intro t ht
    rcases Nat.lt_or_ge T t with h | h
    · obtain ⟨k, rfl⟩ : ∃ k, t = T + k := ⟨t - T, by omega⟩
      have g := G k (by omega)
      have e1 : woT (2 * N) (T + k) (odiag (2 * N) L) = rep (fun M _ => woS (2 * N) M) k (foT (2 * N) T (odiag (2 * N) L)) := by rw [← fT.1]; exact rep_add _ _ _ _
      have e2 : foT (2 * N) (T + k) (odiag (2 * N) L) = rep (fun M _ => foS (2 * N) M) k (foT (2 * N) T (odiag (2 * N) L)) := rep_add _ _ _ _
      rw [e1, e2]
      exact ⟨g.1, g.2.2.2⟩
    · exact ⟨(F t h).1, (F t h).2.2.2⟩
  have e2 := E (T + 2) (by omega)
  have e3 := E (T + 3) (by omega)
  have l1 := (up_foT hop2 (T + 1) _ hX).1
  have l2 := (up_foT hop2 (T + 2) _ hX).1
  have l3 := (up_foT hop2 (T + 3) _ hX).1
  have lT := (up_foT hop2 T _ hX).1
  have lo : ∀ i j v, Ti (WaysO N L) i j v → Bd (2 * N) (foT (2 * N) (T + 2) (odiag (2 * N) L)) i j v := by
    rintro i j v (p | ⟨_, h, g, ⟨x, p, hx⟩, ⟨y, q, hy⟩, hs⟩)
    · exact (up_foS hop2 _ l1).2 _ _ _ ((up_foS hop2 _ lT).2 _ _ _ (hcov _ _ _ p))
    · have b1 := hcov _ _ _ p
      have b2 := hcov _ _ _ q
      have c1 := foS_half hop2 b1.1 lT b1
      have c2 := foS_half hop2 b2.1 lT b2
      rw [op_op] at c2
      exact foS_strong hop2 c1.1 c2.2.1 l1 c1 c2 (by omega)
  refine ⟨_, rfl, ?_⟩
  rw [e2.1]
  refine ⟨l2, e2.2.1, fun i j v => ⟨e2.2.2 _ _ _, lo _ _ _⟩, ?_, ?_⟩
  · have h3 : woS (2 * N) (woT (2 * N) (T + 2) (odiag (2 * N) L)) = foT (2 * N) (T + 3) (odiag (2 * N) L) := e3.1
    rw [e2.1] at h3
    rw [h3]
    refine eq_of_bd l3 l2 e3.2.1 e2.2.1 fun i j v => ⟨fun q => lo _ _ _ (e3.2.2 _ _ _ q), fun q => (up_foS hop2 _ l2).2 _ _ _ q⟩
  · intro t ht i hi
    have e := E t (by omega)
    rw [e.1]
    have b := (up_foT hop2 t _ hX).2 _ _ _ (odiag_refl hL i hi)
    exact (ti_shut S cW hw).fine i _ (e.2.2 _ _ _ ⟨hi, hi, b.2.2.1, Int.le_refl _⟩)
/-- No point: the sweeps show it. -/
theorem refO_none (hN : N ≤ 4) (hb : b ≤ 2097152) (h : ¬ (Fine (Bd (2 * N) (odiag (2 * N) L)) ∧ Whole (WaysO N L))) :
    ∃ t i, i < 2 * N ∧ (cg (woT (2 * N) t (odiag (2 * N) L)) (i * (2 * N) + i)).most < 0 := by
  have hX : (odiag (2 * N) L).length = 2 * N * (2 * N) := by rw [odiag_length]; exact hL
  by_cases hf : Fine (Bd (2 * N) (odiag (2 * N) L))
  · have hw : ¬ Whole (WaysO N L) := fun q => h ⟨hf, q⟩
    have : ∃ i x y, Hf (WaysO N L) i x ∧ Hf (WaysO N L) (op i) y ∧ x + y < 0 := Classical.byContradiction fun q => hw fun i x y p r => by
      rcases Int.lt_or_le (x + y) 0 with h | h
      · exact absurd ⟨i, x, y, p, r, h⟩ q
      · exact h
    obtain ⟨i, x, y, ⟨u, p, hu⟩, ⟨w, r, hwv⟩, hxy⟩ := this
    rw [op_op] at r
    have S : Shut (2 * N) (WaysO N L) := shut_path (bd_over _ _) (odiag_refl hL) hf
    have cW : Coh (WaysO N L) := (odiag_coh hL hc).path
    have hp : b * 2 ^ (2 * N) ≤ 536870912 := by
      have := Nat.mul_le_mul hb (pow_eight hN)
      omega
    obtain ⟨q, hq, hqb⟩ := potential (bd_over _ _) (ofree_path hL hc hf) (near_mono (near_ofree hL hc nL hn hf) hp)
    have hP : ∀ i, (fun i => q i - q (op i)) (op i) = - (fun i => q i - q (op i)) i := fun i => by simp only [op_op]; omega
    have H : LoS (2 * N) fun c L' => (Norm L' ∧ ∀ i j v, Bd (2 * N) L' i j v → Su (WaysO N L) i j) ∧ LowP (2 * N) (fun i => q i - q (op i)) c L' :=
      ((LoS.norm _).and (LoS.of hop2 (cl_su S cW))).and (los_low hop2 hP)
    have h0 : (Norm (odiag (2 * N) L) ∧ ∀ i j v, Bd (2 * N) (odiag (2 * N) L) i j v → Su (WaysO N L) i j) ∧ LowP (2 * N) (fun i => q i - q (op i)) (List.replicate (2 * N * (2 * N)) 1) (odiag (2 * N) L) := by
      refine ⟨⟨norm_odiag nL, fun i j v b => ⟨v, .inl (.one b)⟩⟩, fun i j v b => ?_⟩
      have h1 := hq _ _ _ b
      have h2 := hq _ _ _ (odiag_coh hL hc _ _ _ b)
      simp only
      omega
    have F := first_exact (M := 1500000000000) hop2 hX (near_odiag hn) hb1 (by omega) (cntT_three N hN) H h0 3 (Nat.le_refl _)
    have hU : IU (2 * N) (WaysO N L) 4000000000000000000 (foT (2 * N) 3 (odiag (2 * N) L)) := by
      refine ⟨(up_foT hop2 3 _ hX).1, F.2.2.2.1.1, F.2.2.2.1.2, fun i j v p => cover_three hN hX hf p, fun i j v q => ⟨q.1, q.2.1, q.2.2.1, ?_⟩⟩
      have h1 := F.2.1 (i * (2 * N) + j)
      have h2 := Nat.mul_le_mul hb (cntT_three N hN (i * (2 * N) + j))
      omega
    have G := (simU (M := 400000000000000) hop2 S cW (by omega) H (fun c L' h hM i j v b => by
      have h1 := h.2 _ _ _ b
      have h2 := hM (i * (2 * N) + j)
      have h3 := hqb i
      have h4 := hqb j
      have h5 := hqb (op i)
      have h6 := hqb (op j)
      simp only at h1
      omega) 1).rep (fun c _ => coS_le _ c) (c := coT (2 * N) 3 (List.replicate (2 * N * (2 * N)) 1)) ⟨F.2.2.1, hU, F.2.2.2⟩ 1 (Nat.le_refl _) (cntT_four N hN)
    have e4 : woT (2 * N) 4 (odiag (2 * N) L) = foS (2 * N) (foT (2 * N) 3 (odiag (2 * N) L)) := by
      have : woT (2 * N) 4 (odiag (2 * N) L) = woS (2 * N) (woT (2 * N) 3 (odiag (2 * N) L)) := rfl
      rw [this, F.1]
      exact G.1
    have b1 := cover_three hN hX hf p
    have b2 := cover_three hN hX hf r
    rcases Nat.lt_or_ge i (op i) with hlt | hge
    · have g := foS_neg hop2 b1.2.1 hlt (op_op i) (up_foT hop2 3 _ hX).1 b2 b1
      exact ⟨4, op i, b1.2.1, by rw [e4]; have := g.2.2.2; omega⟩
    · have hne := op_ne i
      have g := foS_neg hop2 b1.1 (show op i < i by omega) rfl (up_foT hop2 3 _ hX).1 b1 b2
      exact ⟨4, i, b1.1, by rw [e4]; have := g.2.2.2; omega⟩
  · have F := first_exact (M := 1500000000000) (Lo := fun _ _ => True) hop2 hX (near_odiag hn) hb1 (by omega) (cntT_three N hN) (LoS.true _) trivial 3 (Nat.le_refl _)
    obtain ⟨i, hi, h1⟩ := round_three hN hX hf
    exact ⟨3, i, hi, by rw [F.1]; exact h1⟩
/-- The sweeps come to the program's row. -/
theorem refO_tight (hN : N ≤ 4) (hb : b ≤ 2097152) (hf : Fine (Bd (2 * N) (odiag (2 * N) L))) (hw : Whole (WaysO N L)) :
    tightL N L = woT (2 * N) 5 (odiag (2 * N) L) ∧ woS (2 * N) (tightL N L) = tightL N L ∧ ∀ t, t ≤ 5 → ∀ i, i < 2 * N → 0 ≤ (cg (woT (2 * N) t (odiag (2 * N) L)) (i * (2 * N) + i)).most := by
  have hX : (odiag (2 * N) L).length = 2 * N * (2 * N) := by rw [odiag_length]; exact hL
  have p8 := pow_eight hN
  obtain ⟨C, e, h1, h2, h3, h4, h5⟩ := refO_some (T := 3) (M := 1500000000000) hL hc nL hn hb1 (by omega) (cntT_three N hN) (by rw [Nat.mul_assoc]; exact Nat.mul_le_mul_left _ (by omega)) hf hw (fun i j v p => cover_three hN hX hf p)
  have T := tightL_inv hN hL hc nL hn (by omega) hf
  have : tightL N L = C := eq_of_bd T.1.len h1 T.1.norm h2 fun i j v => by rw [T.2, h3]
  rw [this]
  exact ⟨e, h4, h5⟩
end
end Go.Proofs.Rcn
