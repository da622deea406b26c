/- Plain law: what each printed function of congruences tells. -/
import Derived.Test.YtimgfgambeffeaaDoorCg
import Derived.Test.YtimgfgambeffeaaDoorEv
import Derived.Test.YtimgfgambeffeaaDoorC4
import Derived.Test.YtimgfgambeffeaaDoorC5
import Derived.Test.YtimgfgambeffeaaDoorC7
import Derived.Test.YtimgfgambeffeaaDoorC12
import Derived.Test.YtimgfgambeffeaaDoorC13
import Derived.Test.YtimgfgambeffeaaDoorC12
import Derived.Test.YtimgfgambeffeaaDoorC9
import Derived.Test.YtimgfgambeffeaaDoorC6
import Derived.Test.YtimgfgambeffeaaDoorC6
set_option linter.unusedVariables false
namespace Go.Proofs.Rcp
open Go.RowKit Go.Proofs.YtimgfgambeffeaaDoor.C Go.Proofs.YtimgfgambeffeaaDoorW.PrintWords Go.Proofs.YtimgfgambeffeaaDoorW.PrintMore

theorem far_c (a : Int) : congr_far.f a 1099511627776 = some (decide (a > 1099511627776 ∨ a < -1099511627776)) := by
  have e : wrap64 (-1099511627776) = -1099511627776 := by unfold wrap64; omega
  unfold congr_far.f
  rw [e]
  split
  · rename_i h; rw [decide_eq_true (.inl h)]
  · rename_i h
    congr 1
    exact decide_eq_decide.2 ⟨.inr, fun q => q.resolve_left h⟩
theorem ev_Valid (r m : Int) : Ev (fun k => congr_Valid.f k r m) (cValid r m) := by
  have j : ∀ b : Bool, Ev (fun k => congr_Valid.j0 k b r m) (if b = true then some 2 else if m > 0 ∧ (r < 0 ∨ r ≥ m) then some 3 else none) := by
    intro b
    refine Ev.step (h := fun k => if b = true then some (some 2) else if m > 0 then (if r < 0 then some (some 3) else if r ≥ m then some (some 3) else some none) else some none) (fun k => by simp only [congr_Valid.j0]) (.of fun _ => ?_)
    cases b
    · simp only [Bool.false_eq_true, if_false]
      by_cases h1 : m > 0
      · by_cases h2 : r < 0
        · rw [if_pos h1, if_pos h2, if_pos ⟨h1, .inl h2⟩]
        · by_cases h3 : r ≥ m
          · rw [if_pos h1, if_neg h2, if_pos h3, if_pos ⟨h1, .inr h3⟩]
          · rw [if_pos h1, if_neg h2, if_neg h3, if_neg (by omega)]
      · rw [if_neg h1, if_neg (by omega)]
    · simp
  unfold cValid congr_Valid.f
  by_cases h1 : m < 0
  · simp only [if_pos h1]
    rw [if_pos (.inl h1)]
    exact j true
  · simp only [if_neg h1]
    by_cases h2 : m > 1048576
    · simp only [if_pos h2]
      rw [if_pos (.inr (.inl h2))]
      exact j true
    · simp only [if_neg h2]
      by_cases h3 : m = 0
      · simp only [if_pos h3, far_c, Option.bind_some]
        by_cases h4 : r > 1099511627776 ∨ r < -1099511627776
        · rw [if_pos (.inr (.inr ⟨h3, h4⟩))]
          simp only [decide_eq_true h4]
          exact j true
        · rw [if_neg (by omega)]
          simp only [decide_eq_false h4]
          exact j false
      · simp only [if_neg h3]
        rw [if_neg (by omega)]
        exact j false

theorem ev_Has {r m : Int} (n : Int) (h : CV r m) : Ev (fun k => congr_Has.f k r m n) (inC r m n) := by
  unfold congr_Has.f
  refine .bind (ev_Valid r m) ?_
  rw [cValid_none.2 h]
  simp only [Option.isNone_none, if_true]
  by_cases h0 : m = 0
  · simp only [if_pos h0, inC]
    exact .some
  · simp only [if_neg h0, inC]
    have := h.bd
    rw [up_mod n m (by omega) (by omega)]
    exact .some
theorem ev_two (r m s n : Int) : Ev (fun k => congr_two.f k r m s n) (if (cValid r m).isNone = true then cValid s n else cValid r m) := by
  unfold congr_two.f
  refine .bind (ev_Valid r m) ?_
  cases h : cValid r m with
  | none =>
    simp only [Option.isNone_none, if_true]
    exact .bind (ev_Valid s n) .some
  | some c => simp only [Option.isNone_some, Bool.false_eq_true, if_false, Option.getD_some]; exact .some
theorem ev_two_ok {r m s n : Int} (h : CV r m) (h' : CV s n) : Ev (fun k => congr_two.f k r m s n) none := by
  have := ev_two r m s n
  rwa [cValid_none.2 h, cValid_none.2 h'] at this

/-! ### greatest common divisors -/
theorem size_c {x : Int} (h1 : -4611686018427387904 ≤ x) (h2 : x ≤ 4611686018427387904) : congr_size.f x = some ((x.natAbs : Nat) : Int) := by
  unfold congr_size.f mx wrap64
  congr 1
  split <;> omega
theorem gcd_l1 {l : List Int} {n i res : Int} : ∀ (y x : Nat), Ev (fun k => congr_gcd.l0 k ((Nat.gcd x y : Nat) : Int) l n (wrap64 (i + 1))) res → Ev (fun k => congr_gcd.l1 k (x : Int) (y : Int) l n i) res := by
  intro y
  induction y using Nat.strongRecOn with
  | _ y ih =>
    intro x h
    refine Ev.step (h := fun k => if (y : Int) = 0 then congr_gcd.l0 k x l n (wrap64 (i + 1)) else congr_gcd.l1 k y (Int.tmod x y) l n i) (fun k => by simp only [congr_gcd.l1]) ?_
    by_cases hy : y = 0
    · subst hy
      simpa using h
    · have hy' : ¬ (y : Int) = 0 := by omega
      have e : Int.tmod (x : Int) (y : Int) = ((x % y : Nat) : Int) := by rw [Int.tmod_eq_emod_of_nonneg (by omega)]; rfl
      simp only [if_neg hy', e]
      refine ih (x % y) (Nat.mod_lt _ (by omega)) y ?_
      have g : Nat.gcd y (x % y) = Nat.gcd x y := by rw [Nat.gcd_comm x y, Nat.gcd_rec y x, Nat.gcd_comm]
      rw [g]
      exact h
theorem gcd_l0 {l : List Int} (hl : l.length ≤ 1000) (hb : ∀ k, k < l.length → -4611686018427387904 ≤ l.getD k 0 ∧ l.getD k 0 ≤ 4611686018427387904) :
    ∀ (d i : Nat), i + d = l.length → Ev (fun k => congr_gcd.l0 k ((gcdL (l.take i) : Nat) : Int) l (l.length : Int) (i : Int)) ((gcdL l : Nat) : Int) := by
  intro d
  induction d with
  | zero =>
    intro i hi
    refine Ev.step (h := fun k => some ((gcdL (l.take i) : Nat) : Int)) (fun k => ?_) ?_
    · simp only [congr_gcd.l0]
      rw [if_neg (by omega)]
    · rw [List.take_of_length_le (by omega)]
      exact .some
  | succ d ih =>
    intro i hi
    have hlt : i < l.length := by omega
    have hk := hb i hlt
    refine Ev.step (h := fun k => congr_gcd.l1 k ((gcdL (l.take i) : Nat) : Int) (((l.getD i 0).natAbs : Nat) : Int) l (l.length : Int) (i : Int)) (fun k => ?_) ?_
    · simp only [congr_gcd.l0]
      rw [if_pos (by omega), if_pos (by omega), if_pos (by omega)]
      have e : rd l (i : Int) = l.getD i 0 := by simp [rd]
      rw [e, size_c hk.1 hk.2, Option.bind_some]
    · refine gcd_l1 _ _ ?_
      have e : wrap64 ((i : Int) + 1) = ((i + 1 : Nat) : Int) := by unfold wrap64; omega
      rw [e, ← gcdL_snoc, ← take_snoc hlt]
      exact ih (i + 1) (by omega)
theorem ev_gcd {l : List Int} (hl : l.length ≤ 1000) (hb : ∀ k, k < l.length → -4611686018427387904 ≤ l.getD k 0 ∧ l.getD k 0 ≤ 4611686018427387904) : Ev (fun k => congr_gcd.f k l) ((gcdL l : Nat) : Int) := by
  have := gcd_l0 hl hb l.length 0 (by omega)
  unfold congr_gcd.f
  exact this
theorem ev_gcd2 {a b : Int} (ha : -4611686018427387904 ≤ a ∧ a ≤ 4611686018427387904) (hb : -4611686018427387904 ≤ b ∧ b ≤ 4611686018427387904) : Ev (fun k => congr_gcd.f k [a, b]) ((Nat.gcd a.natAbs b.natAbs : Nat) : Int) := by
  have := ev_gcd (l := [a, b]) (by simp) (fun k hk => by
    match k, hk with
    | 0, _ => exact ha
    | 1, _ => exact hb)
  simpa [gcdL] using this
theorem ev_gcd3 {a b c : Int} (ha : -4611686018427387904 ≤ a ∧ a ≤ 4611686018427387904) (hb : -4611686018427387904 ≤ b ∧ b ≤ 4611686018427387904) (hc : -4611686018427387904 ≤ c ∧ c ≤ 4611686018427387904) :
    Ev (fun k => congr_gcd.f k [a, b, c]) ((Nat.gcd (Nat.gcd a.natAbs b.natAbs) c.natAbs : Nat) : Int) := by
  have := ev_gcd (l := [a, b, c]) (by simp) (fun k hk => by
    match k, hk with
    | 0, _ => exact ha
    | 1, _ => exact hb
    | 2, _ => exact hc)
  simpa [gcdL] using this

/-! ### in form -/
theorem ev_told (r : Int) {m : Int} (h : 0 ≤ m) : Ev (fun k => congr_told.f k r m) (told r m) := by
  have j : ∀ b : Bool, m ≤ 1048576 ∨ b = true → Ev (fun k => congr_told.j0 k r m b) (if b = true then (0, 1) else if m > 0 then (r % m, m) else (r, 0)) := by
    intro b hb
    refine Ev.step (h := fun k => if b = true then some (0, 1) else if m > 0 then (if m = 0 then none else some (Int.tmod (wrap64 (Int.tmod r m + m)) m, m)) else some (r, 0)) (fun k => by simp only [congr_told.j0]) (.of fun _ => ?_)
    cases b
    · simp only [Bool.false_eq_true, if_false]
      by_cases h1 : m > 0
      · rw [if_pos h1, if_neg (by omega), if_pos h1, up_mod r m (by omega) (by simpa using hb)]
      · rw [if_neg h1, if_neg h1]
    · simp
  unfold told congr_told.f
  by_cases h2 : m > 1048576
  · simp only [if_pos h2]
    rw [if_pos (.inl h2)]
    exact j true (.inr rfl)
  · simp only [if_neg h2]
    by_cases h3 : m = 0
    · simp only [if_pos h3, far_c, Option.bind_some]
      by_cases h4 : r > 1099511627776 ∨ r < -1099511627776
      · rw [if_pos (.inr ⟨h3, h4⟩)]
        simp only [decide_eq_true h4]
        exact j true (.inr rfl)
      · rw [if_neg (by omega)]
        simp only [decide_eq_false h4]
        exact j false (.inl (by omega))
    · simp only [if_neg h3]
      rw [if_neg (by omega)]
      exact j false (.inl (by omega))

theorem ev_Join {r m s n : Int} (h : CV r m) (h' : CV s n) :
    Ev (fun k => congr_Join.f k r m s n) ((told r (Nat.gcd (Nat.gcd m.natAbs n.natAbs) (r - s).natAbs : Nat)).1, (told r (Nat.gcd (Nat.gcd m.natAbs n.natAbs) (r - s).natAbs : Nat)).2, none) := by
  have a := h.bd
  have b := h'.bd
  unfold congr_Join.f
  refine .bind (ev_two_ok h h') ?_
  simp only [Option.isNone_none, if_true]
  rw [w64 (by omega) (by omega)]
  exact .bind (ev_gcd3 (by omega) (by omega) (by omega)) (.bind (ev_told _ (by omega)) .some)
theorem ev_Within {r m s n : Int} (h : CV r m) (h' : CV s n) : Ev (fun k => congr_Within.f k r m s n) (within r m s n, none) := by
  unfold congr_Within.f within
  refine .bind (ev_two_ok h h') ?_
  simp only [Option.isNone_none, if_true]
  by_cases h0 : n = 0
  · simp only [if_pos h0]
    exact .some
  · simp only [if_neg h0]
    have b := h.bd
    rw [Int.tmod_eq_emod_of_nonneg (by omega)]
    by_cases h1 : m % n = 0
    · simp only [if_pos h1]
      refine .bind (ev_Has r h') ?_
      rw [h1]
      exact .some
    · simp only [if_neg h1]
      have : (m % n == 0) = false := by simpa using h1
      rw [this]
      exact .some
theorem ev_Add {r m s n : Int} (h : CV r m) (h' : CV s n) : Ev (fun k => congr_Add.f k r m s n) ((told (r + s) (Nat.gcd m.natAbs n.natAbs : Nat)).1, (told (r + s) (Nat.gcd m.natAbs n.natAbs : Nat)).2, none) := by
  have a := h.bd
  have b := h'.bd
  unfold congr_Add.f
  refine .bind (ev_two_ok h h') ?_
  simp only [Option.isNone_none, if_true]
  rw [w64 (by omega) (by omega)]
  exact .bind (ev_gcd2 (by omega) (by omega)) (.bind (ev_told _ (by omega)) .some)
theorem ev_Sub {r m s n : Int} (h : CV r m) (h' : CV s n) : Ev (fun k => congr_Sub.f k r m s n) ((told (r - s) (Nat.gcd m.natAbs n.natAbs : Nat)).1, (told (r - s) (Nat.gcd m.natAbs n.natAbs : Nat)).2, none) := by
  have a := h.bd
  have b := h'.bd
  unfold congr_Sub.f
  refine .bind (ev_two_ok h h') ?_
  simp only [Option.isNone_none, if_true]
  rw [w64 (by omega) (by omega)]
  exact .bind (ev_gcd2 (by omega) (by omega)) (.bind (ev_told _ (by omega)) .some)

/-! ### products -/
theorem times_c {a b : Int} (ha : -4611686018427387904 ≤ a ∧ a ≤ 4611686018427387904) (hb : -4611686018427387904 ≤ b ∧ b ≤ 4611686018427387904) :
    congr_times.f a b = if (a * b).natAbs ≤ 4611686018427387904 then some (a * b, true) else some (0, false) := by
  unfold congr_times.f
  by_cases h0 : a = 0
  · subst h0
    simp [wrap64]
  · rw [if_neg h0, size_c hb.1 hb.2, size_c ha.1 ha.2]
    simp only [Option.bind_some]
    have hp : 0 < a.natAbs := by omega
    rw [if_neg (by omega)]
    have e : Int.tdiv (4611686018427387904 : Int) ((a.natAbs : Nat) : Int) = ((4611686018427387904 / a.natAbs : Nat) : Int) := by rw [Int.tdiv_eq_ediv_of_nonneg (by omega)]; rfl
    have hle : 4611686018427387904 / a.natAbs ≤ 4611686018427387904 := Nat.div_le_self _ _
    have key : (((b.natAbs : Nat) : Int) > ((4611686018427387904 / a.natAbs : Nat) : Int)) ↔ ¬ (a * b).natAbs ≤ 4611686018427387904 := by
      rw [Int.natAbs_mul]
      have := Nat.div_lt_iff_lt_mul (x := 4611686018427387904) (y := b.natAbs) hp
      rw [Nat.mul_comm b.natAbs] at this
      generalize 4611686018427387904 / a.natAbs = q at *
      omega
    rw [e]
    generalize 4611686018427387904 / a.natAbs = q at *
    rw [w64 (by omega) (by omega)]
    by_cases hk : (a * b).natAbs ≤ 4611686018427387904
    · rw [if_neg (by rw [key]; exact fun h => h hk), if_pos hk, w64 (by omega) (by omega)]
    · rw [if_pos (key.2 hk), if_neg hk]

/-- All four products fit. -/
def Fits (r m s n : Int) : Prop := (m * s).natAbs ≤ 4611686018427387904 ∧ (n * r).natAbs ≤ 4611686018427387904 ∧ (m * n).natAbs ≤ 4611686018427387904 ∧ (r * s).natAbs ≤ 4611686018427387904
instance (r m s n : Int) : Decidable (Fits r m s n) := by unfold Fits; infer_instance
def prod (r m s n : Int) : Int × Int := if Fits r m s n then told (r * s) (Nat.gcd (Nat.gcd (m * s).natAbs (n * r).natAbs) (m * n).natAbs : Nat) else (0, 1)
theorem ev_Mul {r m s n : Int} (h : CV r m) (h' : CV s n) : Ev (fun k => congr_Mul.f k r m s n) ((prod r m s n).1, (prod r m s n).2, none) := by
  have a := h.bd
  have b := h'.bd
  have j : ∀ p q t u : Int, p.natAbs ≤ 4611686018427387904 → q.natAbs ≤ 4611686018427387904 → t.natAbs ≤ 4611686018427387904 → Ev (fun k => congr_Mul.j0 k p q t u true) ((told u (Nat.gcd (Nat.gcd p.natAbs q.natAbs) t.natAbs : Nat)).1, (told u (Nat.gcd (Nat.gcd p.natAbs q.natAbs) t.natAbs : Nat)).2, none) := by
    intro p q t u hp hq ht
    refine Ev.step (h := fun k => (congr_gcd.f k [p, q, t]).bind fun x => (congr_told.f k u x).bind fun y => some (y.1, y.2, none)) (fun k => by simp only [congr_Mul.j0, if_true]) ?_
    exact .bind (ev_gcd3 (by omega) (by omega) (by omega)) (.bind (ev_told _ (by omega)) .some)
  have j' : ∀ p q t u : Int, Ev (fun k => congr_Mul.j0 k p q t u false) (0, 1, none) := by
    intro p q t u
    exact Ev.step (h := fun k => some (0, 1, none)) (fun k => by simp only [congr_Mul.j0, Bool.false_eq_true, if_false]) .some
  unfold congr_Mul.f
  refine .bind (ev_two_ok h h') ?_
  simp only [Option.isNone_none, if_true]
  rw [times_c (by omega) (by omega), times_c (by omega) (by omega), times_c (by omega) (by omega), times_c (by omega) (by omega)]
  unfold prod
  by_cases h1 : (m * s).natAbs ≤ 4611686018427387904
  · simp only [if_pos h1, Option.bind_some, if_true]
    by_cases h2 : (n * r).natAbs ≤ 4611686018427387904
    · simp only [if_pos h2, Option.bind_some, if_true]
      by_cases h3 : (m * n).natAbs ≤ 4611686018427387904
      · simp only [if_pos h3, Option.bind_some, if_true]
        by_cases h4 : (r * s).natAbs ≤ 4611686018427387904
        · simp only [if_pos h4, Option.bind_some]
          rw [if_pos (show Fits r m s n from ⟨h1, h2, h3, h4⟩)]
          exact j _ _ _ _ h1 h2 h3
        · simp only [if_neg h4, Option.bind_some]
          rw [if_neg (fun f : Fits r m s n => h4 f.2.2.2)]
          exact j' _ _ _ _
      · simp only [if_neg h3, Option.bind_some]
        rw [if_neg (fun f : Fits r m s n => h3 f.2.2.1)]
        by_cases h4 : (r * s).natAbs ≤ 4611686018427387904
        · simp only [if_pos h4, Option.bind_some, Bool.false_eq_true, if_false]; exact j' _ _ _ _
        · simp only [if_neg h4, Option.bind_some, Bool.false_eq_true, if_false]; exact j' _ _ _ _
    · simp only [if_neg h2, Option.bind_some]
      rw [if_neg (fun f : Fits r m s n => h2 f.2.1)]
      by_cases h3 : (m * n).natAbs ≤ 4611686018427387904 <;> by_cases h4 : (r * s).natAbs ≤ 4611686018427387904
      all_goals simp only [h3, h4, if_true, if_false, Option.bind_some, Bool.false_eq_true]; exact j' _ _ _ _
  · simp only [if_neg h1, Option.bind_some]
    rw [if_neg (fun f : Fits r m s n => h1 f.1)]
    by_cases h2 : (n * r).natAbs ≤ 4611686018427387904 <;> by_cases h3 : (m * n).natAbs ≤ 4611686018427387904 <;> by_cases h4 : (r * s).natAbs ≤ 4611686018427387904
    all_goals simp only [h2, h3, h4, if_true, if_false, Option.bind_some, Bool.false_eq_true]; exact j' _ _ _ _

/-! ### the references -/
def errN (e : Option Int) : Int := e.getD 0
theorem far_r (a : Int) : R2_Far.f a 1099511627776 = some (decide (a > 1099511627776 ∨ a < -1099511627776)) := far_c a
theorem ev_CongrError (r m : Int) : Ev (fun k => R2_CongrError.f k r m) (errN (cValid r m)) := by
  have j : ∀ b : Bool, Ev (fun k => R2_CongrError.j0 k b r m) (if b = true then 2 else if m > 0 ∧ (r < 0 ∨ r ≥ m) then 3 else 0) := by
    intro b
    refine Ev.step (h := fun k => if b = true then some 2 else if m > 0 then (if r < 0 then some 3 else if r ≥ m then some 3 else some 0) else some 0) (fun k => by simp only [R2_CongrError.j0]) (.of fun _ => ?_)
    cases b
    · simp only [Bool.false_eq_true, if_false]
      by_cases h1 : m > 0
      · by_cases h2 : r < 0
        · rw [if_pos h1, if_pos h2, if_pos ⟨h1, .inl h2⟩]
        · by_cases h3 : r ≥ m
          · rw [if_pos h1, if_neg h2, if_pos h3, if_pos ⟨h1, .inr h3⟩]
          · rw [if_pos h1, if_neg h2, if_neg h3, if_neg (by omega)]
      · rw [if_neg h1, if_neg (by omega)]
    · simp
  unfold cValid R2_CongrError.f
  simp only [far_r, Option.bind_some]
  by_cases h1 : m < 0
  · simp only [if_pos h1]
    rw [if_pos (.inl h1)]
    exact j true
  · simp only [if_neg h1]
    by_cases h2 : m > 1048576
    · simp only [if_pos h2]
      rw [if_pos (.inr (.inl h2))]
      exact j true
    · simp only [if_neg h2]
      by_cases h3 : m = 0
      · simp only [if_pos h3]
        by_cases h4 : r > 1099511627776 ∨ r < -1099511627776
        · rw [if_pos (.inr (.inr ⟨h3, h4⟩))]
          simp only [decide_eq_true h4]
          exact j true
        · rw [if_neg (by omega)]
          simp only [decide_eq_false h4]
          have := j false
          by_cases h5 : m > 0 ∧ (r < 0 ∨ r ≥ m)
          · omega
          · rw [if_neg h5] at this ⊢; exact this
      · simp only [if_neg h3]
        rw [if_neg (by omega)]
        have := j false
        by_cases h5 : m > 0 ∧ (r < 0 ∨ r ≥ m)
        · rw [if_pos h5] at this ⊢; exact this
        · rw [if_neg h5] at this ⊢; exact this
theorem cValid_cases (r m : Int) : cValid r m = none ∨ cValid r m = some 2 ∨ cValid r m = some 3 := by
  unfold cValid
  split
  · exact .inr (.inl rfl)
  · split
    · exact .inr (.inr rfl)
    · exact .inl rfl
/-- The first error of two. -/
def cTwo (r m s n : Int) : Option Int := if (cValid r m).isNone = true then cValid s n else cValid r m
theorem cTwo_none {r m s n : Int} : cTwo r m s n = none ↔ CV r m ∧ CV s n := by
  unfold cTwo
  rw [← cValid_none, ← cValid_none]
  cases h : cValid r m <;> simp
theorem cTwo_cases (r m s n : Int) : cTwo r m s n = none ∨ cTwo r m s n = some 2 ∨ cTwo r m s n = some 3 := by
  unfold cTwo
  split
  · exact cValid_cases _ _
  · exact cValid_cases _ _
theorem ev_TwoCongrs (r m s n : Int) : Ev (fun k => R2_TwoCongrs.f k r m s n) (errN (cTwo r m s n)) := by
  unfold R2_TwoCongrs.f cTwo
  refine .bind (ev_CongrError r m) ?_
  rcases cValid_cases r m with h | h | h <;> rw [h] <;> simp only [errN, Option.getD_none, Option.getD_some, Option.isNone_none, Option.isNone_some, Bool.false_eq_true, if_true, if_false, Int.reduceEq]
  · exact .bind (ev_CongrError s n) .some
  · exact .some
  · exact .some
end Go.Proofs.Rcp
