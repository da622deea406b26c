import Derived.Test.YtcalcnfppnbooaaDoorOxZr
import Derived.Test.YtcalcnfppnbooaaDoorOxRefP
import Derived.Test.YtcalcnfppnbooaaDoorOxOt
import Derived.Test.YtcalcnfppnbooaaDoorOxZ25
/- Plain law: the reference's closing of an octagon, as it is printed: what it comes to. -/
set_option linter.unusedVariables false
set_option linter.unusedSimpArgs false
namespace Go.Proofs.Rcp
open Go.RowKit Go.Proofs.Rcg Go.Proofs.Rcn Go.Proofs.YtcalcnfppnbooaaDoor.Z Go.Proofs.YtcalcnfppnbooaaDoorW.PrintWords Go.Proofs.YtcalcnfppnbooaaDoorW.PrintMore

theorem bsome {α β : Type} {o : Option α} {x : α} (h : o = some x) (f : α → Option β) : o.bind f = f x := by subst h; rfl
theorem other_val {i : Nat} (h : i ≤ 1000) : R2_other.f (i : Int) = some ((op i : Nat) : Int) := by
  unfold R2_other.f op
  rw [Int.tmod_eq_emod_of_nonneg (by omega)]
  by_cases hp : i % 2 = 0
  · rw [if_pos (by omega), if_pos hp, w64 (by omega) (by omega)]; push_cast; rfl
  · rw [if_neg (by omega), if_neg hp, w64 (by omega) (by omega)]
    congr 1
    omega
theorem down_val {m : Int} (h : -9223372036854775808 ≤ m ∧ m ≤ 9223372036854775807) : R2_down.f m = some (m / 2) := by
  unfold R2_down.f
  by_cases h0 : m < 0
  · rw [if_pos h0]
    obtain ⟨p, hp⟩ : ∃ p : Nat, m = -(p : Int) := ⟨m.natAbs, by omega⟩
    subst hp
    rw [Int.neg_tdiv, Int.neg_tmod, Int.tdiv_eq_ediv_of_nonneg (by omega), Int.tmod_eq_emod_of_nonneg (by omega)]
    by_cases h1 : -((p : Int) % 2) = 0
    · rw [if_pos h1, w64 (by omega) (by omega)]
      congr 1
      omega
    · rw [if_neg h1, w64 (n := -((p : Int) / 2)) (by omega) (by omega), w64 (by omega) (by omega)]
      congr 1
      omega
  · rw [if_neg h0, Int.tdiv_eq_ediv_of_nonneg (by omega), w64 (by omega) (by omega)]
theorem wr64 (x : Int) : -9223372036854775808 ≤ wrap64 x ∧ wrap64 x ≤ 9223372036854775807 := by unfold wrap64; omega
/-- All in the machine's range. -/
def IL64 (L : List Cel) : Prop := ∀ k, -9223372036854775808 ≤ (cg L k).most ∧ (cg L k).most ≤ 9223372036854775807
theorem IL64.least {L : List Cel} (h : IL64 L) {k : Nat} {b : Bool} {m : Int} (hm : -9223372036854775808 ≤ m ∧ m ≤ 9223372036854775807) : IL64 (leastL L k b m) := by
  intro x
  unfold leastL
  rw [cg_set]
  split
  · unfold leastC
    split
    · exact hm
    · exact h k
  · exact h x
/-- From X to Z: what is told stays told; the flag tells whether anything is new. -/
structure Fl (n : Nat) (X : List Cel) (a0 : Bool) (Z : List Cel) (a : Bool) : Prop where
  len : Z.length = n * n
  i64 : IL64 Z
  up : ∀ i j v, Bd n X i j v → Bd n Z i j v
  f : a = false → a0 = false ∧ Z = X
  t : a = true → a0 = true ∨ ∃ i j v, Bd n Z i j v ∧ ¬ Bd n X i j v
theorem Fl.refl {n : Nat} {X : List Cel} (hl : X.length = n * n) (hi : IL64 X) (a : Bool) : Fl n X a X a := ⟨hl, hi, fun _ _ _ b => b, fun h => ⟨h, rfl⟩, fun h => .inl h⟩
theorem Fl.trans {n : Nat} {X Z Y : List Cel} {a0 a b : Bool} (p : Fl n X a0 Z a) (q : Fl n Z a Y b) : Fl n X a0 Y b where
  len := q.len
  i64 := q.i64
  up := fun i j v h => q.up _ _ _ (p.up _ _ _ h)
  f := fun h => ⟨(p.f (q.f h).1).1, (q.f h).2.trans (p.f (q.f h).1).2⟩
  t := fun h => by
    rcases q.t h with h1 | ⟨i, j, v, h1, h2⟩
    · rcases p.t h1 with h3 | ⟨i, j, v, h3, h4⟩
      · exact .inl h3
      · exact .inr ⟨i, j, v, q.up _ _ _ h3, h4⟩
    · exact .inr ⟨i, j, v, h1, fun h3 => h2 (p.up _ _ _ h3)⟩
/-- A lowering. -/
theorem lower_fl {n : Nat} {L : List Cel} (hl : L.length = n * n) (hi : IL64 L) {i j : Nat} (hin : i < n) (hjn : j < n) {m : Int} (hm : -9223372036854775808 ≤ m ∧ m ≤ 9223372036854775807) (a : Bool) :
    ∃ b, R2_lower.f (rces L) ((i * n + j : Nat) : Int) m = some (b, rces (leastL L (i * n + j) true m)) ∧ Fl n L a (leastL L (i * n + j) true m) (if b = true then true else a) := by
  have hk : i * n + j < L.length := by rw [hl]; exact idx_lt hin hjn
  have e := bd_least hl hin hjn true m
  have base : (leastL L (i * n + j) true m).length = n * n ∧ IL64 (leastL L (i * n + j) true m) ∧ ∀ i' j' v, Bd n L i' j' v → Bd n (leastL L (i * n + j) true m) i' j' v :=
    ⟨by rw [leastL_length]; exact hl, hi.least hm, fun _ _ _ q => (e _ _ _).2 (.inl q)⟩
  unfold R2_lower.f
  rw [if_pos (by omega), if_pos (by rw [rces_length]; omega), rdR_cg]
  by_cases hs : (cg L (i * n + j)).has = true ∧ (cg L (i * n + j)).most ≤ m
  · refine ⟨false, ?_, ?_⟩
    · rw [if_pos (show (rce (cg L (i * n + j))).f0 = true from hs.1), if_pos (show (rce (cg L (i * n + j))).f1 ≤ m from hs.2), leastL_no' (fun _ => hs)]
    · have q : leastL L (i * n + j) true m = L := leastL_no' (fun _ => hs)
      rw [q]
      simpa using Fl.refl hl hi a
  · have hset : leastL L (i * n + j) true m = L.set (i * n + j) ⟨true, m⟩ := by
      unfold leastL leastC
      rw [if_pos]
      simp only [Bool.true_and, Bool.or_eq_true, Bool.not_eq_true', decide_eq_true_eq]
      by_cases hh : (cg L (i * n + j)).has = true
      · exact .inr (by have : ¬ (cg L (i * n + j)).most ≤ m := fun q => hs ⟨hh, q⟩; omega)
      · exact .inl (by simpa using hh)
    refine ⟨true, ?_, base.1, base.2.1, base.2.2, fun h => by simp at h, fun _ => .inr ⟨i, j, m, (e _ _ _).2 (.inr ⟨rfl, rfl, rfl, Int.le_refl _⟩), fun q => hs ⟨q.2.2.1, q.2.2.2⟩⟩⟩
    rw [hset]
    have e2 : (rces L).set ((i * n + j : Nat) : Int).toNat (⟨true, m⟩ : RC) = rces (L.set (i * n + j) ⟨true, m⟩) := by
      rw [Int.toNat_natCast]; exact rces_set L _ ⟨true, m⟩
    rw [← e2]
    by_cases hh : (rce (cg L (i * n + j))).f0 = true
    · rw [if_pos hh, if_neg (show ¬ (rce (cg L (i * n + j))).f1 ≤ m from fun q => hs ⟨hh, q⟩)]
    · rw [if_neg hh]
section
variable {N : Int} {n : Nat} {r : Int × List RC × Bool}
theorem coct_l4 (h5 : n ≤ 16) {i j : Nat} (hi : i < n) (hj : j < n) {X : List Cel} {a0 : Bool} (hX : X.length = n * n) (hI : IL64 X)
    (hnext : ∀ a, Fl n X a0 (swJ n i X j) a → Ev (fun k => R2_ClosedOct.l3 k (n : Int) a (i : Int) ((j + 1 : Nat) : Int) N (rces (swJ n i X j))) r) :
    ∀ m q : Nat, q + m = n → ∀ a, Fl n X a0 (rep (fun M k => closeJ n k i M j) q X) a → Ev (fun k => R2_ClosedOct.l4 k (n : Int) a (i : Int) (j : Int) (q : Int) N (rces (rep (fun M k => closeJ n k i M j) q X))) r := by
  intro m
  induction m with
  | zero =>
    intro q hq a ha
    obtain rfl : q = n := by omega
    exact Ev.step (fun k => by simp only [R2_ClosedOct.l4, up64 (p := j) (by omega)]; rfl) (.neg (by omega) (hnext a ha))
  | succ m ih =>
    intro q hq a ha
    have hq' : q < n := by omega
    have i1 := idx_lt hi hq'
    have i2 := idx_lt hq' hj
    have i3 := idx_lt hi hj
    have nx := ih (q + 1) (by omega)
    rw [rep_succ] at nx
    have hM := ha.len
    have hMI := ha.i64
    generalize rep (fun M k => closeJ n k i M j) q X = M at nx hM ha hMI ⊢
    have stay : ((cg M (i * n + q)).has && (cg M (q * n + j)).has) = false → Ev (fun k => R2_ClosedOct.l4 k (n : Int) a (i : Int) (j : Int) ((q + 1 : Nat) : Int) N (rces M)) r := by
      intro e
      have e2 : closeJ n q i M j = M := by unfold closeJ; rw [e]; exact leastL_no' (fun q => by cases q)
      have := nx a
      rw [e2] at this
      exact this ha
    refine Ev.step (fun k => by simp only [R2_ClosedOct.l4, ix64 (p := i) (q := q) h5 hi hq', ix64 (p := q) (q := j) h5 hq' hj, ix64 (p := i) (q := j) h5 hi hj, rdR_cg, up64 (p := q) (by omega)]; rfl)
      (.pos (by omega) (.pos (by omega) (.pos (by rw [rces_length, hM]; omega) (.pos (by omega) (.pos (by rw [rces_length, hM]; omega) (.ite (fun ha' => .ite (fun hb => ?_) (fun hb => ?_)) (fun ha' => ?_)))))))
    · obtain ⟨b, e, hf⟩ := lower_fl hM hMI hi hj (wr64 ((cg M (i * n + q)).most + (cg M (q * n + j)).most)) a
      have e1 : closeJ n q i M j = leastL M (i * n + j) true (wrap64 ((cg M (i * n + q)).most + (cg M (q * n + j)).most)) := by
        unfold closeJ; rw [show (cg M (i * n + q)).has = true from ha', show (cg M (q * n + j)).has = true from hb]; rfl
      have e' : R2_lower.f (rces M) ((i * n + j : Nat) : Int) (wrap64 ((rce (cg M (i * n + q))).f1 + (rce (cg M (q * n + j))).f1)) = some (b, rces (closeJ n q i M j)) := by rw [e1]; exact e
      rw [e']
      rw [← e1] at hf
      refine .bind .some ?_
      cases b with
      | true => exact .pos rfl (nx true (ha.trans hf))
      | false => exact .neg (by simp) (nx a (ha.trans hf))
    · exact stay (by rw [show (cg M (q * n + j)).has = false by simpa [rce] using hb, Bool.and_false])
    · exact stay (by rw [show (cg M (i * n + q)).has = false by simpa [rce] using ha', Bool.false_and])
theorem wT2_length (n i L j) : (wT2 n i L j).length = L.length := leastL_length ..
theorem woJ_length (n i L j) : (woJ n i L j).length = L.length := (swJ_length n i _ j).trans (wT2_length n i L j)
theorem woI_length (n L i) : (woI n L i).length = L.length := (rep_length (woJ_length n i) n _).trans (leastL_length ..)
theorem coct_l3 (h5 : n ≤ 16) (hop : ∀ i, i < n → op i < n) {i : Nat} (hi : i < n) {Y : List Cel} {a0 : Bool} (hY : Y.length = n * n) (hI : IL64 Y)
    (hnext : ∀ a, Fl n Y a0 (rep (woJ n i) n Y) a → Ev (fun k => R2_ClosedOct.l2 k (n : Int) a ((i + 1 : Nat) : Int) N (rces (rep (woJ n i) n Y))) r) :
    ∀ m q : Nat, q + m = n → ∀ a, Fl n Y a0 (rep (woJ n i) q Y) a → Ev (fun k => R2_ClosedOct.l3 k (n : Int) a (i : Int) (q : Int) N (rces (rep (woJ n i) q Y))) r := by
  intro m
  induction m with
  | zero =>
    intro q hq a ha
    obtain rfl : q = n := by omega
    exact Ev.step (fun k => by simp only [R2_ClosedOct.l3, up64 (p := i) (by omega)]; rfl) (.neg (by omega) (hnext a ha))
  | succ m ih =>
    intro q hq a ha
    have hq' : q < n := by omega
    have ho1 := hop i hi
    have ho2 := hop q hq'
    have i1 := idx_lt hi ho1
    have i2 := idx_lt ho2 hq'
    have i3 := idx_lt hi hq'
    have nx := ih (q + 1) (by omega)
    rw [rep_succ] at nx
    have hM := ha.len
    have hMI := ha.i64
    generalize rep (woJ n i) q Y = M at nx hM ha hMI ⊢
    have go : ∀ a', Fl n M a (wT2 n i M q) a' → Ev (fun k => R2_ClosedOct.l4 k (n : Int) a' (i : Int) (q : Int) 0 N (rces (wT2 n i M q))) r := fun a' hf =>
      coct_l4 h5 hi hq' hf.len hf.i64 (fun a2 h2 => nx a2 ((ha.trans hf).trans h2)) n 0 (by omega) a' (Fl.refl hf.len hf.i64 a')
    have six : ∀ b : Bool, Fl n M a (wT2 n i M q) (if b = true then true else a) → Ev (fun k => R2_ClosedOct.j6 k (n : Int) a (i : Int) (q : Int) b N (rces (wT2 n i M q))) r := fun b hf => by
      refine Ev.step (fun k => by simp only [R2_ClosedOct.j6]; rfl) ?_
      cases b with
      | true => exact .pos rfl (Ev.step (fun k => by simp only [R2_ClosedOct.j7]) (go true hf))
      | false => exact .neg (by simp) (Ev.step (fun k => by simp only [R2_ClosedOct.j7]) (go a hf))
    have stay : ((cg M (i * n + op i)).has && (cg M (op q * n + q)).has) = false → Ev (fun k => R2_ClosedOct.j6 k (n : Int) a (i : Int) (q : Int) false N (rces M)) r := by
      intro e
      have e2 : wT2 n i M q = M := by unfold wT2; rw [e]; exact leastL_no' (fun q => by cases q)
      have := six false
      rw [e2] at this
      exact this (by simpa using Fl.refl hM hMI a)
    refine Ev.step (fun k => by simp only [R2_ClosedOct.l3, bsome (other_val (i := i) (by omega)), bsome (other_val (i := q) (by omega)), ix64 (p := i) (q := op i) h5 hi ho1, ix64 (p := op q) (q := q) h5 ho2 hq', ix64 (p := i) (q := q) h5 hi hq', rdR_cg]; rfl)
      (.pos (by omega) (.pos (by omega) (.pos (by rw [rces_length, hM]; omega) (.pos (by omega) (.pos (by rw [rces_length, hM]; omega) (.ite (fun ha' => .ite (fun hb => ?_) (fun hb => ?_)) (fun ha' => ?_)))))))
    · have hd : R2_down.f (wrap64 ((rce (cg M (i * n + op i))).f1 + (rce (cg M (op q * n + q))).f1)) = some (wrap64 ((cg M (i * n + op i)).most + (cg M (op q * n + q)).most) / 2) := down_val (wr64 _)
      rw [hd]
      refine .bind .some ?_
      have w := wr64 ((cg M (i * n + op i)).most + (cg M (op q * n + q)).most)
      obtain ⟨b, e, hf⟩ := lower_fl hM hMI hi hq' (m := wrap64 ((cg M (i * n + op i)).most + (cg M (op q * n + q)).most) / 2) (by omega) a
      have e1 : wT2 n i M q = leastL M (i * n + q) true (wrap64 ((cg M (i * n + op i)).most + (cg M (op q * n + q)).most) / 2) := by
        unfold wT2; rw [show (cg M (i * n + op i)).has = true from ha', show (cg M (op q * n + q)).has = true from hb]; rfl
      rw [e, ← e1]
      rw [← e1] at hf
      exact .bind .some (six b hf)
    · exact stay (by rw [show (cg M (op q * n + q)).has = false by simpa [rce] using hb, Bool.and_false])
    · exact stay (by rw [show (cg M (i * n + op i)).has = false by simpa [rce] using ha', Bool.false_and])
/-- A row of the sweep. -/
theorem coct_row (h5 : n ≤ 16) (hop : ∀ i, i < n → op i < n) {i : Nat} (hi : i < n) {X : List Cel} {a : Bool} (hX : X.length = n * n) (hI : IL64 X) (h0 : ¬ (cg X (i * n + i)).most < 0)
    (hnext : ∀ a', Fl n X a (woI n X i) a' → Ev (fun k => R2_ClosedOct.l2 k (n : Int) a' ((i + 1 : Nat) : Int) N (rces (woI n X i))) r) :
    Ev (fun k => R2_ClosedOct.l2 k (n : Int) a (i : Int) N (rces X)) r := by
  have ho := hop i hi
  have i1 := idx_lt hi hi
  have i2 := idx_lt hi ho
  have go : ∀ a', Fl n X a (fT1 n X i) a' → Ev (fun k => R2_ClosedOct.j4 k (n : Int) a' (i : Int) N (rces (fT1 n X i))) r := fun a' hf =>
    Ev.step (fun k => by simp only [R2_ClosedOct.j4]; rfl) (coct_l3 h5 hop hi hf.len hf.i64 (fun a2 h2 => hnext a2 (hf.trans h2)) n 0 (by omega) a' (Fl.refl hf.len hf.i64 a'))
  have three : ∀ b : Bool, Fl n X a (fT1 n X i) (if b = true then true else a) → Ev (fun k => R2_ClosedOct.j3 k (n : Int) a (i : Int) b N (rces (fT1 n X i))) r := fun b hf => by
    refine Ev.step (fun k => by simp only [R2_ClosedOct.j3]; rfl) ?_
    cases b with
    | true => exact .pos rfl (go true hf)
    | false => exact .neg (by simp) (go a hf)
  refine Ev.step (fun k => by simp only [R2_ClosedOct.l2, bsome (other_val (i := i) (by omega)), ix64 (p := i) (q := i) h5 hi hi, ix64 (p := i) (q := op i) h5 hi ho, rdR_cg]; rfl)
    (.pos (by omega) (.pos (by omega) (.pos (by rw [rces_length, hX]; omega) (.neg h0 (.pos (by omega) (.pos (by rw [rces_length, hX]; omega) (.ite (fun ha => ?_) (fun ha => ?_))))))))
  · have hm := hI (i * n + op i)
    have hd : R2_down.f ((rce (cg X (i * n + op i))).f1) = some ((cg X (i * n + op i)).most / 2) := down_val hm
    rw [hd]
    refine .bind .some ?_
    rw [w64 (n := 2 * ((cg X (i * n + op i)).most / 2)) (by omega) (by omega)]
    obtain ⟨b, e, hf⟩ := lower_fl hX hI hi ho (m := 2 * ((cg X (i * n + op i)).most / 2)) (by omega) a
    have e1 : fT1 n X i = leastL X (i * n + op i) true (2 * ((cg X (i * n + op i)).most / 2)) := by
      unfold fT1; rw [show (cg X (i * n + op i)).has = true from ha]
    rw [e, ← e1]
    rw [← e1] at hf
    exact .bind .some (three b hf)
  · have e2 : fT1 n X i = X := by unfold fT1; rw [show (cg X (i * n + op i)).has = false by simpa [rce] using ha]; exact leastL_no' (fun q => by cases q)
    have := three false
    rw [e2] at this
    exact this (by simpa using Fl.refl hX hI a)
/-- What a row leaves alone. -/
theorem cg_woI {X : List Cel} {i x y : Nat} (hx : x < n) (hy : y < n) (hi : i < n) (hop : ∀ i, i < n → op i < n) (hX : X.length = n * n) (hne : x ≠ i) : cg (woI n X i) (x * n + y) = cg X (x * n + y) := by
  have one : ∀ (Z : List Cel) (j : Nat) (h : Bool) (m : Int), Z.length = n * n → j < n → cg (leastL Z (i * n + j) h m) (x * n + y) = cg Z (x * n + y) := by
    intro Z j h m hZ hj
    rw [cg_least Z (by rw [hZ]; exact idx_lt hi hj), if_neg (fun e => hne (idx_inj hy hj e).1)]
  have hJ : ∀ (Z : List Cel) (j : Nat), j < n → Z.length = n * n → cg (woJ n i Z j) (x * n + y) = cg Z (x * n + y) := by
    intro Z j hj hZ
    have hT : (wT2 n i Z j).length = n * n := by rw [wT2_length]; exact hZ
    have := rep_ind (P := fun M => M.length = n * n ∧ cg M (x * n + y) = cg (wT2 n i Z j) (x * n + y)) (f := fun M k => closeJ n k i M j) (n := n) (fun M k hk hM => ⟨by show (leastL _ _ _ _).length = _; rw [leastL_length]; exact hM.1, (one M j _ _ hM.1 hj).trans hM.2⟩) ⟨hT, rfl⟩ n (Nat.le_refl _)
    exact this.2.trans (one Z j _ _ hZ hj)
  have hT : (fT1 n X i).length = n * n := by rw [fT1, leastL_length]; exact hX
  have := rep_ind (P := fun M => M.length = n * n ∧ cg M (x * n + y) = cg (fT1 n X i) (x * n + y)) (f := woJ n i) (n := n) (fun M j hj hM => ⟨by rw [woJ_length]; exact hM.1, (hJ M j hj hM.1).trans hM.2⟩) ⟨hT, rfl⟩ n (Nat.le_refl _)
  exact this.2.trans (one X (op i) _ _ hX (hop i hi))
theorem cg_woIs {X : List Cel} {x y : Nat} (hx : x < n) (hy : y < n) (hop : ∀ i, i < n → op i < n) (hX : X.length = n * n) : ∀ q, q ≤ x → cg (rep (woI n) q X) (x * n + y) = cg X (x * n + y) := by
  intro q
  induction q with
  | zero => intro _; rfl
  | succ q ih =>
    intro hq
    rw [rep_succ, cg_woI hx hy (by omega) hop (by rw [rep_length (woI_length n)]; exact hX) (by omega), ih (by omega)]
/-- A way round below 0 is seen. -/
theorem coct_bad (h5 : n ≤ 16) (hop : ∀ i, i < n → op i < n) {X : List Cel} (hX : X.length = n * n) {x : Nat} (hx : x < n) (hneg : (cg X (x * n + x)).most < 0) :
    ∀ m q : Nat, q + m = n → q ≤ x → ∀ a, IL64 (rep (woI n) q X) → Ev (fun k => R2_ClosedOct.l2 k (n : Int) a (q : Int) N (rces (rep (woI n) q X))) (0, [], false) := by
  intro m
  induction m with
  | zero => intro q hq hqx; omega
  | succ m ih =>
    intro q hq hqx a hI
    have hq' : q < n := by omega
    have hM : (rep (woI n) q X).length = n * n := by rw [rep_length (woI_length n)]; exact hX
    have nx := ih (q + 1) (by omega)
    rw [rep_succ] at nx
    have hxx := cg_woIs hx hx hop hX q hqx
    generalize rep (woI n) q X = M at nx hM hI hxx ⊢
    by_cases h0 : (cg M (q * n + q)).most < 0
    · have i1 := idx_lt hq' hq'
      exact Ev.step (fun k => by simp only [R2_ClosedOct.l2, ix64 (p := q) (q := q) h5 hq' hq', rdR_cg]; rfl) (.pos (by omega) (.pos (by omega) (.pos (by rw [rces_length, hM]; omega) (.pos h0 .some))))
    · refine coct_row h5 hop hq' hM hI h0 fun a' hf => nx ?_ a' hf.i64
      rcases Nat.lt_or_ge q x with h | h
      · omega
      · obtain rfl : q = x := by omega
        rw [hxx] at h0
        exact absurd hneg h0
/-- None is seen: a whole sweep. -/
theorem coct_good (h5 : n ≤ 16) (hop : ∀ i, i < n → op i < n) {X : List Cel} (hX : X.length = n * n) (hpos : ∀ x, x < n → 0 ≤ (cg X (x * n + x)).most)
    (hnext : ∀ a, Fl n X false (woS n X) a → Ev (fun k => R2_ClosedOct.l1 k (n : Int) a N (rces (woS n X))) r) :
    ∀ m q : Nat, q + m = n → ∀ a, Fl n X false (rep (woI n) q X) a → Ev (fun k => R2_ClosedOct.l2 k (n : Int) a (q : Int) N (rces (rep (woI n) q X))) r := by
  intro m
  induction m with
  | zero =>
    intro q hq a ha
    obtain rfl : q = n := by omega
    exact Ev.step (fun k => by simp only [R2_ClosedOct.l2]; rfl) (.neg (by omega) (hnext a ha))
  | succ m ih =>
    intro q hq a ha
    have hq' : q < n := by omega
    have nx := ih (q + 1) (by omega)
    rw [rep_succ] at nx
    have hxx := cg_woIs hq' hq' hop hX q (Nat.le_refl _)
    have hp := hpos q hq'
    have hM := ha.len
    generalize rep (woI n) q X = M at nx hM ha hxx ⊢
    exact coct_row h5 hop hq' hM ha.i64 (by rw [hxx]; omega) fun a' hf => nx a' (ha.trans hf)
theorem woT_succ (n t : Nat) (X : List Cel) : woT n (t + 1) X = woT n t (woS n X) := by
  have := rep_add (woS n) 1 t X
  rw [Nat.add_comm] at this
  exact this
theorem woT_fix {X : List Cel} (h : woS n X = X) (t : Nat) : woT n t X = X := by
  induction t with
  | zero => rfl
  | succ t ih => rw [woT_succ, h, ih]
theorem coct_none (h5 : n ≤ 16) (hop : ∀ i, i < n → op i < n) : ∀ (t : Nat) {X : List Cel}, X.length = n * n → IL64 X → (∃ x, x < n ∧ (cg (woT n t X) (x * n + x)).most < 0) → Ev (fun k => R2_ClosedOct.l1 k (n : Int) true N (rces X)) (0, [], false) := by
  intro t
  induction t with
  | zero =>
    rintro X hX hI ⟨x, hx, hneg⟩
    refine Ev.step (fun k => by simp only [R2_ClosedOct.l1]; rfl) (.pos (show true = true from rfl) ?_)
    exact (coct_bad h5 hop hX hx hneg n 0 (by omega) (by omega) false hI)
  | succ t ih =>
    rintro X hX hI ⟨x, hx, hneg⟩
    refine Ev.step (fun k => by simp only [R2_ClosedOct.l1]; rfl) (.pos (show true = true from rfl) ?_)
    by_cases hb : ∃ y, y < n ∧ (cg X (y * n + y)).most < 0
    · obtain ⟨y, hy, h⟩ := hb
      exact coct_bad h5 hop hX hy h n 0 (by omega) (by omega) false hI
    · refine coct_good h5 hop hX (fun y hy => by
        rcases Int.lt_or_le (cg X (y * n + y)).most 0 with h | h
        · exact absurd ⟨y, hy, h⟩ hb
        · exact h) (fun a ha => ?_) n 0 (by omega) false (Fl.refl hX hI false)
      cases a with
      | true => exact ih ha.len ha.i64 ⟨x, hx, by rw [← woT_succ]; exact hneg⟩
      | false =>
        rw [woT_fix (ha.f rfl).2] at hneg
        exact absurd ⟨x, hx, hneg⟩ hb
theorem coct_some (h5 : n ≤ 16) (hop : ∀ i, i < n → op i < n) {C : List Cel} (hC : woS n C = C) : ∀ (t : Nat) {X : List Cel}, X.length = n * n → IL64 X → woT n t X = C → (∀ s, s ≤ t → ∀ x, x < n → 0 ≤ (cg (woT n s X) (x * n + x)).most) →
    Ev (fun k => R2_ClosedOct.l1 k (n : Int) true N (rces X)) (N, rces (C.map clipC), true) := by
  have fin : ∀ {X : List Cel}, X.length = n * n → X = C → Ev (fun k => R2_ClosedOct.l1 k (n : Int) false N (rces X)) (N, rces (C.map clipC), true) := by
    intro X hX e
    have hle : n * n ≤ 16 * 16 := Nat.mul_le_mul h5 h5
    subst e
    exact Ev.step (fun k => by simp only [R2_ClosedOct.l1]; rfl) (.neg (show ¬ (false = true) by decide) (.bind (ev_clip X (by omega)) .some))
  intro t
  induction t with
  | zero =>
    intro X hX hI e hpos
    have e' : X = C := e
    refine Ev.step (fun k => by simp only [R2_ClosedOct.l1]; rfl) (.pos (show true = true from rfl) ?_)
    refine coct_good h5 hop hX (hpos 0 (Nat.le_refl _)) (fun a ha => ?_) n 0 (by omega) false (Fl.refl hX hI false)
    cases a with
    | true =>
      rcases ha.t rfl with h | ⟨i, j, v, h1, h2⟩
      · cases h
      · rw [e', hC] at h1
        rw [e'] at h2
        exact absurd h1 h2
    | false => exact fin ha.len ((ha.f rfl).2.trans e')
  | succ t ih =>
    intro X hX hI e hpos
    refine Ev.step (fun k => by simp only [R2_ClosedOct.l1]; rfl) (.pos (show true = true from rfl) ?_)
    refine coct_good h5 hop hX (hpos 0 (by omega)) (fun a ha => ?_) n 0 (by omega) false (Fl.refl hX hI false)
    cases a with
    | true => exact ih ha.len ha.i64 (by rw [← woT_succ]; exact e) fun s hs x hx => by rw [← woT_succ]; exact hpos (s + 1) (by omega) x hx
    | false =>
      have h1 := (ha.f rfl).2
      exact fin ha.len (h1.trans (by rw [← e, woT_fix h1]))
theorem coct_l0 (h5 : n ≤ 16) {X : List Cel} (hX : X.length = n * n) (hnext : Ev (fun k => R2_ClosedOct.l1 k (n : Int) true N (rces (diag n X))) r) :
    ∀ m q : Nat, q + m = n → Ev (fun k => R2_ClosedOct.l0 k (n : Int) (q : Int) N (rces (rep (closeD n) q X))) r := by
  intro m
  induction m with
  | zero =>
    intro q hq
    obtain rfl : q = n := by omega
    exact Ev.step (fun k => by simp only [R2_ClosedOct.l0]; rfl) (.neg (by omega) hnext)
  | succ m ih =>
    intro q hq
    have hq' : q < n := by omega
    have nx := ih (q + 1) (by omega)
    rw [rep_succ, closeD] at nx
    have hM : (rep (closeD n) q X).length = n * n := by rw [rep_length (closeD_length n)]; exact hX
    generalize rep (closeD n) q X = M at nx hM ⊢
    obtain ⟨b, e⟩ := lower_val (L := M) (i := q * n + q) (by rw [hM]; exact idx_lt hq' hq') 0
    refine Ev.step (fun k => by simp only [R2_ClosedOct.l0, ix64 (p := q) (q := q) h5 hq' hq', up64 (p := q) (by omega), e]; rfl) (.pos (by omega) (.bind .some nx))
end
theorem diag_odiag {N : Nat} {L : List Cel} (hL : L.length = 2 * N * (2 * N)) (nL : Norm L) : diag (2 * N) L = odiag (2 * N) L :=
  eq_of_bd (by rw [diag_length]; exact hL) (by rw [odiag_length]; exact hL) (norm_diag nL) (norm_odiag nL) fun i j v => by rw [bd_diag hL, bd_odiag hL]
theorem i64_near {b : Nat} {L : List Cel} (h : Near b L) (hb : b ≤ 9223372036854775807) : IL64 L := fun k => by have := h k; omega
/-- The reference's closing: from its rounds' result. -/
theorem ev_coct {N : Int} {n : Nat} {l : List RC} {r : Int × List RC × Bool} (hn : N = n) (h5 : n ≤ 8) (hl : (rels l).length = 2 * n * (2 * n)) (nL : Norm (rels l))
    (h : Ev (fun k => R2_ClosedOct.l1 k ((2 * n : Nat) : Int) true N (rces (odiag (2 * n) (rels l)))) r) : Ev (fun k => R2_ClosedOct.f k N l) r := by
  have hle : 2 * n * (2 * n) ≤ 16 * 16 := Nat.mul_le_mul (by omega) (by omega)
  have hl' : l.length = 2 * n * (2 * n) := by rw [← rels_length]; exact hl
  unfold R2_ClosedOct.f
  refine .pos (by simp; omega) ?_
  rw [List.nil_append, w64 (n := 2 * N) (by omega) (by omega), show 2 * N = ((2 * n : Nat) : Int) by omega]
  have := coct_l0 (N := N) (n := 2 * n) (by omega) hl (by rw [diag_odiag hl nL]; exact h) (2 * n) 0 (by omega)
  rw [show rep (closeD (2 * n)) 0 (rels l) = rels l from rfl, rces_rels] at this
  exact this
/-- What the closing comes to, as it is printed: the program's. -/
theorem ev_ClosedOct {N : Int} {n : Nat} {l : List RC} (hn : N = n) (h4 : n ≤ 4) (R : RowO n (rels l)) {b : Nat} (hb : b ≤ 2097152) (hb1 : 1 ≤ b) (hnear : Near b (rels l)) :
    Ev (fun k => R2_ClosedOct.f k N l) (shutR N (closeO (2 * n) (rels l))) := by
  refine ev_coct hn (by omega) R.len R.norm ?_
  have hi : IL64 (odiag (2 * n) (rels l)) := i64_near (near_odiag hnear) (by omega)
  have hX : (odiag (2 * n) (rels l)).length = 2 * n * (2 * n) := by rw [odiag_length]; exact R.len
  have e := closeO_eq h4 R.len R.coh.coh R.norm R.near
  by_cases q : Fine (Bd (2 * n) (odiag (2 * n) (rels l))) ∧ Whole (WaysO n (rels l))
  · rw [e.1 q]
    obtain ⟨t1, t2, t3⟩ := refO_tight R.len R.coh.coh R.norm hnear hb1 h4 hb q.1 q.2
    exact coct_some (by omega) hop2 t2 5 hX hi t1.symm t3
  · rw [e.2 q]
    obtain ⟨t, i, hi2, h⟩ := refO_none R.len R.coh.coh R.norm hnear hb1 h4 hb q
    exact coct_none (by omega) hop2 t hX hi ⟨i, hi2, h⟩
end Go.Proofs.Rcp
