/- Plain law: the law 'IntervalWiden' as it is printed is true, whatever it is given. -/
import Derived.Test.YtimgfgambeffeaaDoorIvJ
import Derived.Test.YtimgfgambeffeaaDoorJ5
import Derived.Test.YtimgfgambeffeaaDoorJ8
import Derived.Test.YtimgfgambeffeaaDoorJ9
set_option linter.unusedVariables false
namespace Go.Proofs.Rcp
open Go.RowKit Go.Proofs.Rcg Go.Proofs.YtimgfgambeffeaaDoor.J Go.Proofs.YtimgfgambeffeaaDoorW.PrintWords Go.Proofs.YtimgfgambeffeaaDoorW.PrintMore

/-- A side moves to a stop. -/
def stepL (d' : Bool) (y : Int) (p : Bool × Int) (s : Int) : Bool × Int := if d' = true then p else if s ≤ y then (if p.1 = true then (false, s) else if s > p.2 then (false, s) else p) else p
def stepH (u' : Bool) (y : Int) (p : Bool × Int) (s : Int) : Bool × Int := if u' = true then p else if s ≥ y then (if p.1 = true then (false, s) else if s < p.2 then (false, s) else p) else p
theorem foldL_true (y : Int) : ∀ (l : List Int) (p : Bool × Int), l.foldl (stepL true y) p = p := by
  intro l
  induction l with
  | nil => intro p; rfl
  | cons a l ih => intro p; rw [List.foldl_cons]; exact ih p
theorem foldH_true (y : Int) : ∀ (l : List Int) (p : Bool × Int), l.foldl (stepH true y) p = p := by
  intro l
  induction l with
  | nil => intro p; rfl
  | cons a l ih => intro p; rw [List.foldl_cons]; exact ih p
theorem rd_get {l : List Int} {i : Nat} (h : i < l.length) : rd l (i : Int) = l[i] := by simp [rd, List.getD_eq_getElem?_getD, List.getElem?_eq_getElem h]
section
variable {l : List Int} {d u : Bool} {lo hi : Int} {d' u' : Bool} {lo' hi' : Int} {q1 : Bool} {q3 : Int}
theorem widen_l1 {R : Bool × Bool × Int × Int × Option Int} (hl : l.length ≤ 1000) : ∀ (n i : Nat), i + n = l.length → ∀ (q0 : Bool) (q2 : Int), Ev (fun k => interval_Widen.j3 k l d u lo hi d' u' lo' hi' ((l.drop i).foldl (stepL d' lo') (q0, q2)).1 q1 ((l.drop i).foldl (stepL d' lo') (q0, q2)).2 q3) R →
    Ev (fun k => interval_Widen.l1 k l l (l.length : Int) (i : Int) d u lo hi d' u' lo' hi' q0 q1 q2 q3) R := by
  intro n
  induction n with
  | zero =>
    intro i hin q0 q2 h
    rw [List.drop_eq_nil_of_le (show l.length ≤ i by omega)] at h
    refine Ev.step (fun k => ?_) h
    simp only [interval_Widen.l1]
    rw [if_neg (by omega)]
    rfl
  | succ n ih =>
    intro i hin q0 q2 h
    have hlt : i < l.length := by omega
    rw [List.drop_eq_getElem_cons hlt, List.foldl_cons] at h
    refine Ev.step (h := fun k => interval_Widen.l1 k l l (l.length : Int) ((i + 1 : Nat) : Int) d u lo hi d' u' lo' hi' (stepL d' lo' (q0, q2) l[i]).1 q1 (stepL d' lo' (q0, q2) l[i]).2 q3) (fun k => ?_) (ih (i + 1) (by omega) (stepL d' lo' (q0, q2) l[i]).1 (stepL d' lo' (q0, q2) l[i]).2 h)
    simp only [interval_Widen.l1]
    rw [if_pos (by omega), if_pos (by omega), if_pos (by omega), w64 (n := (i : Int) + 1) (by omega) (by omega), rd_get hlt]
    generalize l[i] = s
    unfold stepL
    cases d' <;> cases q0 <;> simp <;> (repeat' split) <;> first | rfl | simp_all
theorem widened_l0 {R : Bool × Bool × Int × Int} (hl : l.length ≤ 1000) : ∀ (n i : Nat), i + n = l.length → ∀ (q0 : Bool) (q2 : Int), Ev (fun k => R2_WidenedOf.j3 k l d u lo hi d' u' lo' hi' ((l.drop i).foldl (stepL d' lo') (q0, q2)).1 q1 ((l.drop i).foldl (stepL d' lo') (q0, q2)).2 q3) R →
    Ev (fun k => R2_WidenedOf.l0 k l (i : Int) d u lo hi d' u' lo' hi' q0 q1 q2 q3) R := by
  intro n
  induction n with
  | zero =>
    intro i hin q0 q2 h
    rw [List.drop_eq_nil_of_le (show l.length ≤ i by omega)] at h
    refine Ev.step (h := fun k => R2_WidenedOf.j2 k l (i : Int) false d u lo hi d' u' lo' hi' q0 q1 q2 q3) (fun k => ?_) (Ev.step (fun k => ?_) h)
    · simp only [R2_WidenedOf.l0]
      rw [if_neg (by omega)]
    · simp only [R2_WidenedOf.j2, Bool.false_eq_true, if_false]
      rfl
  | succ n ih =>
    intro i hin q0 q2 h
    have hlt : i < l.length := by omega
    cases d' with
    | true =>
      rw [foldL_true] at h
      refine Ev.step (h := fun k => R2_WidenedOf.j2 k l (i : Int) false d u lo hi true u' lo' hi' q0 q1 q2 q3) (fun k => ?_) (Ev.step (fun k => ?_) h)
      · simp only [R2_WidenedOf.l0]
        rw [if_pos (by omega)]
        rfl
      · simp only [R2_WidenedOf.j2, Bool.false_eq_true, if_false]
    | false =>
      rw [List.drop_eq_getElem_cons hlt, List.foldl_cons] at h
      refine Ev.step (h := fun k => R2_WidenedOf.j2 k l (i : Int) true d u lo hi false u' lo' hi' q0 q1 q2 q3) (fun k => ?_) (Ev.step (h := fun k => R2_WidenedOf.l0 k l ((i + 1 : Nat) : Int) d u lo hi false u' lo' hi' (stepL false lo' (q0, q2) l[i]).1 q1 (stepL false lo' (q0, q2) l[i]).2 q3) (fun k => ?_) (ih (i + 1) (by omega) (stepL false lo' (q0, q2) l[i]).1 (stepL false lo' (q0, q2) l[i]).2 h))
      · simp only [R2_WidenedOf.l0]
        rw [if_pos (by omega)]
        rfl
      · simp only [R2_WidenedOf.j2, if_true]
        rw [if_pos (by omega), if_pos (by omega), w64 (n := (i : Int) + 1) (by omega) (by omega), rd_get hlt]
        generalize l[i] = s
        unfold stepL
        cases q0 <;> simp <;> (repeat' split) <;> first | rfl | simp_all
theorem widen_l2 {q0 : Bool} {q2 : Int} (hl : l.length ≤ 1000) : ∀ (n i : Nat), i + n = l.length → ∀ (q1 : Bool) (q3 : Int),
    Ev (fun k => interval_Widen.l2 k l (l.length : Int) (i : Int) d' u' lo' hi' q0 q1 q2 q3) (q0, ((l.drop i).foldl (stepH u' hi') (q1, q3)).1, q2, ((l.drop i).foldl (stepH u' hi') (q1, q3)).2, none) := by
  intro n
  induction n with
  | zero =>
    intro i hin q1 q3
    rw [List.drop_eq_nil_of_le (show l.length ≤ i by omega)]
    refine Ev.step (h := fun _ => some (q0, q1, q2, q3, none)) (fun k => ?_) .some
    simp only [interval_Widen.l2]
    rw [if_neg (by omega)]
  | succ n ih =>
    intro i hin q1 q3
    have hlt : i < l.length := by omega
    rw [List.drop_eq_getElem_cons hlt, List.foldl_cons]
    refine Ev.step (h := fun k => interval_Widen.l2 k l (l.length : Int) ((i + 1 : Nat) : Int) d' u' lo' hi' q0 (stepH u' hi' (q1, q3) l[i]).1 q2 (stepH u' hi' (q1, q3) l[i]).2) (fun k => ?_) (ih (i + 1) (by omega) (stepH u' hi' (q1, q3) l[i]).1 (stepH u' hi' (q1, q3) l[i]).2)
    simp only [interval_Widen.l2]
    rw [if_pos (by omega), if_pos (by omega), if_pos (by omega), w64 (n := (i : Int) + 1) (by omega) (by omega), rd_get hlt]
    generalize l[i] = s
    unfold stepH
    cases u' <;> cases q1 <;> simp <;> (repeat' split) <;> first | rfl | simp_all
theorem widened_l1 {q0 : Bool} {q2 : Int} (hl : l.length ≤ 1000) : ∀ (n i : Nat), i + n = l.length → ∀ (q1 : Bool) (q3 : Int),
    Ev (fun k => R2_WidenedOf.l1 k l (i : Int) d' u' lo' hi' q0 q1 q2 q3) (q0, ((l.drop i).foldl (stepH u' hi') (q1, q3)).1, q2, ((l.drop i).foldl (stepH u' hi') (q1, q3)).2) := by
  intro n
  induction n with
  | zero =>
    intro i hin q1 q3
    rw [List.drop_eq_nil_of_le (show l.length ≤ i by omega)]
    refine Ev.step (h := fun k => R2_WidenedOf.j6 k l (i : Int) false d' u' lo' hi' q0 q1 q2 q3) (fun k => ?_) (Ev.step (h := fun _ => some (q0, q1, q2, q3)) (fun k => ?_) .some)
    · simp only [R2_WidenedOf.l1]
      rw [if_neg (by omega)]
    · simp only [R2_WidenedOf.j6, Bool.false_eq_true, if_false]
  | succ n ih =>
    intro i hin q1 q3
    have hlt : i < l.length := by omega
    cases u' with
    | true =>
      rw [foldH_true]
      refine Ev.step (h := fun k => R2_WidenedOf.j6 k l (i : Int) false d' true lo' hi' q0 q1 q2 q3) (fun k => ?_) (Ev.step (h := fun _ => some (q0, q1, q2, q3)) (fun k => ?_) .some)
      · simp only [R2_WidenedOf.l1]
        rw [if_pos (by omega)]
        rfl
      · simp only [R2_WidenedOf.j6, Bool.false_eq_true, if_false]
    | false =>
      rw [List.drop_eq_getElem_cons hlt, List.foldl_cons]
      refine Ev.step (h := fun k => R2_WidenedOf.j6 k l (i : Int) true d' false lo' hi' q0 q1 q2 q3) (fun k => ?_) (Ev.step (h := fun k => R2_WidenedOf.l1 k l ((i + 1 : Nat) : Int) d' false lo' hi' q0 (stepH false hi' (q1, q3) l[i]).1 q2 (stepH false hi' (q1, q3) l[i]).2) (fun k => ?_) (ih (i + 1) (by omega) (stepH false hi' (q1, q3) l[i]).1 (stepH false hi' (q1, q3) l[i]).2))
      · simp only [R2_WidenedOf.l1]
        rw [if_pos (by omega)]
        rfl
      · simp only [R2_WidenedOf.j6, if_true]
        rw [if_pos (by omega), if_pos (by omega), w64 (n := (i : Int) + 1) (by omega) (by omega), rd_get hlt]
        generalize l[i] = s
        unfold stepH
        cases q1 <;> simp <;> (repeat' split) <;> first | rfl | simp_all
/-- The sides behind widening. -/
def sideL (l : List Int) (d : Bool) (lo : Int) (d' : Bool) (lo' : Int) : Bool × Int := if d = false ∧ (d' = true ∨ lo' < lo) then l.foldl (stepL d' lo') (true, 0) else (d, lo)
def sideH (l : List Int) (u : Bool) (hi : Int) (u' : Bool) (hi' : Int) : Bool × Int := if u = false ∧ (u' = true ∨ hi' > hi) then l.foldl (stepH u' hi') (true, 0) else (u, hi)
theorem widen_j3 {q0 : Bool} {q2 : Int} (hl : l.length ≤ 1000) : Ev (fun k => interval_Widen.j3 k l d u lo hi d' u' lo' hi' q0 u q2 hi) (q0, (sideH l u hi u' hi').1, q2, (sideH l u hi u' hi').2, none) := by
  have t : Ev (fun k => interval_Widen.j4 k l true d' u' lo' hi' q0 u q2 hi) (q0, (l.foldl (stepH u' hi') (true, 0)).1, q2, (l.foldl (stepH u' hi') (true, 0)).2, none) := by
    refine Ev.step (h := fun k => interval_Widen.l2 k l (l.length : Int) ((0 : Nat) : Int) d' u' lo' hi' q0 true q2 0) (fun k => by simp only [interval_Widen.j4, if_true]; rfl) ?_
    exact widen_l2 hl l.length 0 (by omega) true 0
  have f : Ev (fun k => interval_Widen.j4 k l false d' u' lo' hi' q0 u q2 hi) (q0, u, q2, hi, none) := Ev.step (h := fun _ => some (q0, u, q2, hi, none)) (fun k => by simp only [interval_Widen.j4, Bool.false_eq_true, if_false]) .some
  refine Ev.step (fun k => by simp only [interval_Widen.j3]; rfl) ?_
  unfold sideH
  refine .ite (fun h1 => ?_) (fun h1 => .ite (fun h2 => ?_) (fun h2 => ?_))
  · rw [if_neg (by simp [h1])]; exact f
  · rw [if_pos (by simp [h1, h2])]; exact t
  · by_cases h3 : hi' > hi
    · rw [if_pos ⟨by simpa using h1, .inr h3⟩, decide_eq_true h3]; exact t
    · rw [if_neg (by simp [h2]; omega), decide_eq_false h3]; exact f
theorem widened_j3 {q0 : Bool} {q2 : Int} (hl : l.length ≤ 1000) : Ev (fun k => R2_WidenedOf.j3 k l d u lo hi d' u' lo' hi' q0 u q2 hi) (q0, (sideH l u hi u' hi').1, q2, (sideH l u hi u' hi').2) := by
  have t : Ev (fun k => R2_WidenedOf.j4 k l true d' u' lo' hi' q0 u q2 hi) (q0, (l.foldl (stepH u' hi') (true, 0)).1, q2, (l.foldl (stepH u' hi') (true, 0)).2) := by
    refine Ev.step (h := fun k => R2_WidenedOf.l1 k l ((0 : Nat) : Int) d' u' lo' hi' q0 true q2 0) (fun k => by simp only [R2_WidenedOf.j4, if_true]; rfl) ?_
    exact widened_l1 hl l.length 0 (by omega) true 0
  have f : Ev (fun k => R2_WidenedOf.j4 k l false d' u' lo' hi' q0 u q2 hi) (q0, u, q2, hi) := Ev.step (h := fun _ => some (q0, u, q2, hi)) (fun k => by simp only [R2_WidenedOf.j4, Bool.false_eq_true, if_false]) .some
  refine Ev.step (fun k => by simp only [R2_WidenedOf.j3]; rfl) ?_
  unfold sideH
  refine .ite (fun h1 => ?_) (fun h1 => .ite (fun h2 => ?_) (fun h2 => ?_))
  · rw [if_neg (by simp [h1])]; exact f
  · rw [if_pos (by simp [h1, h2])]; exact t
  · by_cases h3 : hi' > hi
    · rw [if_pos ⟨by simpa using h1, .inr h3⟩, decide_eq_true h3]; exact t
    · rw [if_neg (by simp [h2]; omega), decide_eq_false h3]; exact f
theorem ev_WidenedOf (hl : l.length ≤ 1000) : Ev (fun k => R2_WidenedOf.f k d u lo hi d' u' lo' hi' l) ((sideL l d lo d' lo').1, (sideH l u hi u' hi').1, (sideL l d lo d' lo').2, (sideH l u hi u' hi').2) := by
  have t : Ev (fun k => R2_WidenedOf.j0 k l true d u lo hi d' u' lo' hi' d u lo hi) ((l.foldl (stepL d' lo') (true, 0)).1, (sideH l u hi u' hi').1, (l.foldl (stepL d' lo') (true, 0)).2, (sideH l u hi u' hi').2) := by
    refine Ev.step (h := fun k => R2_WidenedOf.l0 k l ((0 : Nat) : Int) d u lo hi d' u' lo' hi' true u 0 hi) (fun k => by simp only [R2_WidenedOf.j0, if_true]; rfl) ?_
    exact widened_l0 hl l.length 0 (by omega) true 0 (widened_j3 hl)
  have f : Ev (fun k => R2_WidenedOf.j0 k l false d u lo hi d' u' lo' hi' d u lo hi) (d, (sideH l u hi u' hi').1, lo, (sideH l u hi u' hi').2) :=
    Ev.step (h := fun k => R2_WidenedOf.j3 k l d u lo hi d' u' lo' hi' d u lo hi) (fun k => by simp only [R2_WidenedOf.j0, Bool.false_eq_true, if_false]) (widened_j3 hl)
  unfold R2_WidenedOf.f sideL
  refine .ite (fun h1 => ?_) (fun h1 => .ite (fun h2 => ?_) (fun h2 => ?_))
  · rw [if_neg (by simp [h1])]; exact f
  · rw [if_pos (by simp [h1, h2])]; exact t
  · by_cases h3 : lo' < lo
    · rw [if_pos ⟨by simpa using h1, .inr h3⟩]; simp only [decide_eq_true h3]; exact t
    · rw [if_neg (by simp [h2]; omega)]; simp only [decide_eq_false h3]; exact f
theorem widen_near (hl : l.length ≤ 1000) (hf : ∀ i (h : i < l.length), farB l[i] = false) : ∀ (n i : Nat), i + n = l.length →
    Ev (fun k => interval_Widen.l0 k l l (l.length : Int) (i : Int) d u lo hi d' u' lo' hi') ((sideL l d lo d' lo').1, (sideH l u hi u' hi').1, (sideL l d lo d' lo').2, (sideH l u hi u' hi').2, none) := by
  have t : Ev (fun k => interval_Widen.j1 k l true d u lo hi d' u' lo' hi' d u lo hi) ((l.foldl (stepL d' lo') (true, 0)).1, (sideH l u hi u' hi').1, (l.foldl (stepL d' lo') (true, 0)).2, (sideH l u hi u' hi').2, none) := by
    refine Ev.step (h := fun k => interval_Widen.l1 k l l (l.length : Int) ((0 : Nat) : Int) d u lo hi d' u' lo' hi' true u 0 hi) (fun k => by simp only [interval_Widen.j1, if_true]; rfl) ?_
    exact widen_l1 hl l.length 0 (by omega) true 0 (widen_j3 hl)
  have f : Ev (fun k => interval_Widen.j1 k l false d u lo hi d' u' lo' hi' d u lo hi) (d, (sideH l u hi u' hi').1, lo, (sideH l u hi u' hi').2, none) :=
    Ev.step (h := fun k => interval_Widen.j3 k l d u lo hi d' u' lo' hi' d u lo hi) (fun k => by simp only [interval_Widen.j1, Bool.false_eq_true, if_false]) (widen_j3 hl)
  intro n
  induction n with
  | zero =>
    intro i hin
    refine Ev.step (h := fun k => if d = true then interval_Widen.j1 k l false d u lo hi d' u' lo' hi' d u lo hi else if d' = true then interval_Widen.j1 k l true d u lo hi d' u' lo' hi' d u lo hi else interval_Widen.j1 k l (decide (lo' < lo)) d u lo hi d' u' lo' hi' d u lo hi) (fun k => ?_) ?_
    · simp only [interval_Widen.l0]
      rw [if_neg (by omega)]
    · unfold sideL
      refine .ite (fun h1 => ?_) (fun h1 => .ite (fun h2 => ?_) (fun h2 => ?_))
      · rw [if_neg (by simp [h1])]; exact f
      · rw [if_pos (by simp [h1, h2])]; exact t
      · by_cases h3 : lo' < lo
        · rw [if_pos ⟨by simpa using h1, .inr h3⟩]; simp only [decide_eq_true h3]; exact t
        · rw [if_neg (by simp [h2]; omega)]; simp only [decide_eq_false h3]; exact f
  | succ n ih =>
    intro i hin
    have hlt : i < l.length := by omega
    refine Ev.step (h := fun k => interval_Widen.l0 k l l (l.length : Int) ((i + 1 : Nat) : Int) d u lo hi d' u' lo' hi') (fun k => ?_) (ih (i + 1) (by omega))
    simp only [interval_Widen.l0]
    rw [if_pos (by omega), if_pos (by omega), if_pos (by omega), w64 (n := (i : Int) + 1) (by omega) (by omega), rd_get hlt, iv_far, hf i hlt]
    rfl
theorem widen_far (hl : l.length ≤ 1000) {j : Nat} (hj : j < l.length) (hf : farB l[j] = true) : ∀ (n i : Nat), i + n = j →
    Ev (fun k => interval_Widen.l0 k l l (l.length : Int) (i : Int) d u lo hi d' u' lo' hi') (false, false, 0, 0, some 2) := by
  intro n
  induction n with
  | zero =>
    intro i hin
    obtain rfl : i = j := by omega
    refine Ev.step (h := fun _ => some (false, false, 0, 0, some 2)) (fun k => ?_) .some
    simp only [interval_Widen.l0]
    rw [if_pos (by omega), if_pos (by omega), if_pos (by omega), rd_get hj, iv_far, hf]
    rfl
  | succ n ih =>
    intro i hin
    have hlt : i < l.length := by omega
    refine Ev.step (h := fun k => if farB l[i] = true then some (false, false, 0, 0, some 2) else interval_Widen.l0 k l l (l.length : Int) ((i + 1 : Nat) : Int) d u lo hi d' u' lo' hi') (fun k => ?_) (.ite (fun _ => .some) (fun _ => ih (i + 1) (by omega)))
    simp only [interval_Widen.l0]
    rw [if_pos (by omega), if_pos (by omega), if_pos (by omega), w64 (n := (i : Int) + 1) (by omega) (by omega), rd_get hlt, iv_far]
    rfl
end

/-! ### Narrow -/
/-- Narrowed: where one has no bound, the other's. -/
def nar (d u : Bool) (lo hi : Int) (d' u' : Bool) (lo' hi' : Int) : Bool × Bool × Int × Int := (if d = true then d' else d, if u = true then u' else u, if d = true then lo' else lo, if u = true then hi' else hi)
/-- Is nothing left? -/
def void (n : Bool × Bool × Int × Int) : Prop := n.1 = false ∧ n.2.1 = false ∧ n.2.2.1 > n.2.2.2
instance (n : Bool × Bool × Int × Int) : Decidable (void n) := by unfold void; infer_instance
theorem ev_Narrow {d u : Bool} {lo hi : Int} {d' u' : Bool} {lo' hi' : Int} (a : IV d u lo hi) (b : IV d' u' lo' hi') :
    Ev (fun k => interval_Narrow.f k d u lo hi d' u' lo' hi') (if void (nar d u lo hi d' u' lo' hi') then (false, false, 0, 0, some 4) else ((nar d u lo hi d' u' lo' hi').1, (nar d u lo hi d' u' lo' hi').2.1, (nar d u lo hi d' u' lo' hi').2.2.1, (nar d u lo hi d' u' lo' hi').2.2.2, none)) := by
  unfold interval_Narrow.f
  refine .bind (ev_iTwo _ _ _ _ _ _ _ _) ?_
  rw [iTwo_none.2 ⟨a, b⟩]
  refine .pos rfl ⟨1, fun k hk => ?_⟩
  rw [show k = k - 1 + 1 by omega]
  unfold void nar
  cases d <;> cases u <;> cases d' <;> cases u' <;> simp [interval_Narrow.j0] <;> split <;> rfl

/-! ### Widen, whole -/
/-- The error that 'Widen' tells. -/
def widE (e : Option Int) (l : List Int) : Option Int := if e.isNone = true then (if (l.length : Int) > 20 then some 2 else if l.any farB = true then some 2 else none) else e
theorem ev_Widen_good {d u : Bool} {lo hi : Int} {d' u' : Bool} {lo' hi' : Int} {l : List Int} (h : widE (iTwo d u lo hi d' u' lo' hi') l = none) :
    Ev (fun k => interval_Widen.f k d u lo hi d' u' lo' hi' l) ((sideL l d lo d' lo').1, (sideH l u hi u' hi').1, (sideL l d lo d' lo').2, (sideH l u hi u' hi').2, none) := by
  unfold widE at h
  have e : (iTwo d u lo hi d' u' lo' hi').isNone = true := by
    by_cases e : (iTwo d u lo hi d' u' lo' hi').isNone = true
    · exact e
    · rw [if_neg e] at h; rw [h] at e; exact absurd rfl e
  rw [if_pos e] at h
  by_cases h1 : (l.length : Int) > 20
  · rw [if_pos h1] at h; cases h
  · rw [if_neg h1] at h
    by_cases h2 : l.any farB = true
    · rw [if_pos h2] at h; cases h
    · unfold interval_Widen.f
      refine .bind (ev_iTwo _ _ _ _ _ _ _ _) (.pos e (.neg h1 ?_))
      refine widen_near (by omega) (fun i hi => ?_) l.length 0 (by omega)
      refine Bool.eq_false_iff.2 fun q => h2 (List.any_eq_true.2 ⟨l[i], List.getElem_mem hi, q⟩)
theorem ev_Widen_bad {d u : Bool} {lo hi : Int} {d' u' : Bool} {lo' hi' c : Int} {l : List Int} (h : widE (iTwo d u lo hi d' u' lo' hi') l = some c) :
    Ev (fun k => interval_Widen.f k d u lo hi d' u' lo' hi' l) (false, false, 0, 0, some c) := by
  unfold widE at h
  unfold interval_Widen.f
  refine .bind (ev_iTwo _ _ _ _ _ _ _ _) (.ite (fun e => ?_) (fun e => ?_))
  · rw [if_pos e] at h
    refine .ite (fun h1 => ?_) (fun h1 => ?_)
    · rw [if_pos h1] at h; obtain rfl := Option.some.inj h; exact .some
    · rw [if_neg h1] at h
      by_cases h2 : l.any farB = true
      · rw [if_pos h2] at h
        obtain rfl := Option.some.inj h
        obtain ⟨x, hx, hf⟩ := List.any_eq_true.1 h2
        obtain ⟨j, hj, rfl⟩ := List.getElem_of_mem hx
        exact widen_far (by omega) hj hf j 0 (by omega)
      · rw [if_neg h2] at h; cases h
  · rw [if_neg e] at h
    rw [h]
    exact .some

/-! ### what is widened is right, and has all -/
theorem foldL_bd {d' : Bool} {y : Int} : ∀ (l : List Int), (∀ x ∈ l, farB x = false) → ∀ p : Bool × Int, (p.1 = true → p.2 = 0) → (p.1 = false → p.2 ≤ y ∧ -1099511627776 ≤ p.2) →
    ((l.foldl (stepL d' y) p).1 = true → (l.foldl (stepL d' y) p).2 = 0) ∧ ((l.foldl (stepL d' y) p).1 = false → (l.foldl (stepL d' y) p).2 ≤ y ∧ -1099511627776 ≤ (l.foldl (stepL d' y) p).2) := by
  intro l
  induction l with
  | nil => intro _ p h1 h2; exact ⟨h1, h2⟩
  | cons a l ih =>
    intro hf p h1 h2
    have ha := farB_false.1 (hf a List.mem_cons_self)
    rw [List.foldl_cons]
    refine ih (fun x hx => hf x (List.mem_cons_of_mem _ hx)) _ ?_ ?_
    · unfold stepL
      repeat' split
      all_goals first | exact h1 | (intro q; cases q)
    · unfold stepL
      repeat' split
      all_goals first | exact h2 | (intro _; dsimp only; omega)
theorem foldH_bd {u' : Bool} {y : Int} : ∀ (l : List Int), (∀ x ∈ l, farB x = false) → ∀ p : Bool × Int, (p.1 = true → p.2 = 0) → (p.1 = false → y ≤ p.2 ∧ p.2 ≤ 1099511627776) →
    ((l.foldl (stepH u' y) p).1 = true → (l.foldl (stepH u' y) p).2 = 0) ∧ ((l.foldl (stepH u' y) p).1 = false → y ≤ (l.foldl (stepH u' y) p).2 ∧ (l.foldl (stepH u' y) p).2 ≤ 1099511627776) := by
  intro l
  induction l with
  | nil => intro _ p h1 h2; exact ⟨h1, h2⟩
  | cons a l ih =>
    intro hf p h1 h2
    have ha := farB_false.1 (hf a List.mem_cons_self)
    rw [List.foldl_cons]
    refine ih (fun x hx => hf x (List.mem_cons_of_mem _ hx)) _ ?_ ?_
    · unfold stepH
      repeat' split
      all_goals first | exact h1 | (intro q; cases q)
    · unfold stepH
      repeat' split
      all_goals first | exact h2 | (intro _; dsimp only; omega)
theorem sideL_bd {d u : Bool} {lo hi : Int} {d' : Bool} {lo' : Int} {l : List Int} (a : IV d u lo hi) (hf : ∀ x ∈ l, farB x = false) :
    ((sideL l d lo d' lo').1 = true → (sideL l d lo d' lo').2 = 0) ∧ ((sideL l d lo d' lo').1 = false → d = false ∧ (sideL l d lo d' lo').2 ≤ lo ∧ -1099511627776 ≤ (sideL l d lo d' lo').2) := by
  unfold sideL
  by_cases c : d = false ∧ (d' = true ∨ lo' < lo)
  · rw [if_pos c]
    have q := foldL_bd (d' := d') (y := lo') l hf (true, 0) (fun _ => rfl) (fun q => by cases q)
    refine ⟨q.1, fun z => ⟨c.1, ?_, (q.2 z).2⟩⟩
    rcases c.2 with rfl | c2
    · rw [foldL_true] at z; cases z
    · have := (q.2 z).1; omega
  · rw [if_neg c]
    exact ⟨a.d0, fun z => ⟨z, Int.le_refl _, a.l1⟩⟩
theorem sideH_bd {d u : Bool} {lo hi : Int} {u' : Bool} {hi' : Int} {l : List Int} (a : IV d u lo hi) (hf : ∀ x ∈ l, farB x = false) :
    ((sideH l u hi u' hi').1 = true → (sideH l u hi u' hi').2 = 0) ∧ ((sideH l u hi u' hi').1 = false → u = false ∧ hi ≤ (sideH l u hi u' hi').2 ∧ (sideH l u hi u' hi').2 ≤ 1099511627776) := by
  unfold sideH
  by_cases c : u = false ∧ (u' = true ∨ hi' > hi)
  · rw [if_pos c]
    have q := foldH_bd (u' := u') (y := hi') l hf (true, 0) (fun _ => rfl) (fun q => by cases q)
    refine ⟨q.1, fun z => ⟨c.1, ?_, (q.2 z).2⟩⟩
    rcases c.2 with rfl | c2
    · rw [foldH_true] at z; cases z
    · have := (q.2 z).1; omega
  · rw [if_neg c]
    exact ⟨a.u0, fun z => ⟨z, Int.le_refl _, a.h2⟩⟩
section
variable {d u : Bool} {l h : Int} {d' u' : Bool} {l' h' : Int}
theorem join_ref (a : IV d u l h) (b : IV d' u' l' h') (k : Nat) : R2_JoinedOf.f (k + 1) d u l h d' u' l' h' = some (d || d', u || u', if (d || d') = true then 0 else min l l', if (u || u') = true then 0 else max h h') := by
  have a1 := a.d0; have a2 := a.u0; have a3 := a.le; have b1 := b.d0; have b2 := b.u0; have b3 := b.le
  cases d <;> cases u <;> cases d' <;> cases u' <;> simp only [true_implies, reduceCtorEq, false_implies] at a1 a2 a3 b1 b2 b3 <;>
    simp only [R2_JoinedOf.f, R2_JoinedOf.j0, Bool.false_eq_true, if_true, if_false, Bool.or_false, Bool.or_true, decide_eq_true_eq] <;> (repeat' split) <;> simp only [Option.some.injEq, Prod.mk.injEq, true_and] <;> omega
end
theorem wide_inside {d u : Bool} {lo hi : Int} {d' u' : Bool} {lo' hi' : Int} {l : List Int} (a : IV d u lo hi) (hf : ∀ x ∈ l, farB x = false) :
    Ev (fun k => R2_InsideOf.f k d u lo hi (sideL l d lo d' lo').1 (sideH l u hi u' hi').1 (sideL l d lo d' lo').2 (sideH l u hi u' hi').2) true := by
  obtain ⟨L0, L1⟩ := sideL_bd (d' := d') (lo' := lo') (l := l) a hf
  obtain ⟨H0, H1⟩ := sideH_bd (u' := u') (hi' := hi') (l := l) a hf
  generalize sideL l d lo d' lo' = L at L0 L1 ⊢
  generalize sideH l u hi u' hi' = H at H0 H1 ⊢
  obtain ⟨p, x⟩ := L
  obtain ⟨q, y⟩ := H
  dsimp only at L0 L1 H0 H1 ⊢
  have := a.l1; have := a.l2; have := a.h1; have := a.h2
  have w : IV p q x y := by
    refine ⟨L0, H0, fun e f => ?_, ?_, ?_, ?_, ?_⟩
    · have := L1 e; have := H1 f; have := a.le (L1 e).1 (H1 f).1; omega
    · cases p with
      | true => rw [L0 rfl]; decide
      | false => exact (L1 rfl).2.2
    · cases p with
      | true => rw [L0 rfl]; decide
      | false => have := L1 rfl; omega
    · cases q with
      | true => rw [H0 rfl]; decide
      | false => have := H1 rfl; omega
    · cases q with
      | true => rw [H0 rfl]; decide
      | false => exact (H1 rfl).2.2
  refine ⟨1, fun k hk => ?_⟩
  rw [show k = k - 1 + 1 by omega]
  unfold R2_InsideOf.f
  dsimp only
  rw [join_ref w a, Option.bind_some]
  congr 1
  cases p with
  | true =>
    have := L0 rfl
    cases q with
    | true => have := H0 rfl; simp [*]
    | false => have := H1 rfl; simp [*]; omega
  | false =>
    have := L1 rfl
    cases q with
    | true => have := H0 rfl; simp [*]; omega
    | false => have := H1 rfl; simp [*]; omega

/-! ### the law -/
theorem law_j6_bad {l : List Int} {d u : Bool} {lo hi : Int} {d' u' : Bool} {lo' hi' : Int} {n0 n1 v0 v1 : Bool} {n2 n3 v2 v3 F c : Int} {eN : Option Int} (hN : L2_isSpan.f n0 n1 n2 n3 eN v0 v1 v2 v3 F = some true) (hc : c = 2 ∨ c = 3) :
    Ev (fun k => L2_IntervalWiden.j6 k l c F (some c) eN d u lo hi d' u' lo' hi' false false 0 0 n0 n1 n2 n3 v0 v1 v2 v3) true := by
  refine Ev.step (h := fun _ => some true) (fun k => ?_) .some
  simp only [L2_IntervalWiden.j6, hN, Option.bind_some, if_true]
  rw [if_pos (by omega), isSpan_err hc]
  rfl
theorem law_j6_good {l : List Int} {d u : Bool} {lo hi : Int} {d' u' : Bool} {lo' hi' : Int} {n0 n1 v0 v1 : Bool} {n2 n3 v2 v3 F : Int} {eN : Option Int} (hN : L2_isSpan.f n0 n1 n2 n3 eN v0 v1 v2 v3 F = some true) (hl : l.length ≤ 1000) (a : IV d u lo hi) (hf : ∀ x ∈ l, farB x = false) :
    Ev (fun k => L2_IntervalWiden.j6 k l 0 F none eN d u lo hi d' u' lo' hi' (sideL l d lo d' lo').1 (sideH l u hi u' hi').1 (sideL l d lo d' lo').2 (sideH l u hi u' hi').2 n0 n1 n2 n3 v0 v1 v2 v3) true := by
  refine Ev.step (h := fun k => (R2_WidenedOf.f k d u lo hi d' u' lo' hi' l).bind fun b => (L2_isSpan.f (sideL l d lo d' lo').1 (sideH l u hi u' hi').1 (sideL l d lo d' lo').2 (sideH l u hi u' hi').2 none b.1 b.2.1 b.2.2.1 b.2.2.2 0).bind fun t => if t = true then ((R2_InsideOf.f k d u lo hi (sideL l d lo d' lo').1 (sideH l u hi u' hi').1 (sideL l d lo d' lo').2 (sideH l u hi u' hi').2).bind fun t => some t) else none) (fun k => ?_) ?_
  · simp only [L2_IntervalWiden.j6, hN, Option.bind_some, if_true]
    rw [if_neg (by decide)]
  · exact .bind (ev_WidenedOf hl) (.bind (.of fun _ => isSpan_ok _ _ _ _) (.pos rfl (.bind (wide_inside a hf) .some)))
theorem ints_ok {l : List Int} (h : l.length ≤ 1000) : L2_ints.f l = some l := by
  unfold L2_ints.f
  rw [if_pos (by simp; omega)]
  simp
theorem isSpan_four (d u : Bool) (lo hi : Int) : L2_isSpan.f false false 0 0 (some 4) d u lo hi 4 = some true := by
  unfold L2_isSpan.f
  rw [if_pos (by omega)]
  rfl
theorem ev_Narrow_bad {d u : Bool} {lo hi : Int} {d' u' : Bool} {lo' hi' c : Int} (h : iTwo d u lo hi d' u' lo' hi' = some c) :
    Ev (fun k => interval_Narrow.f k d u lo hi d' u' lo' hi') (false, false, 0, 0, some c) := by
  unfold interval_Narrow.f
  refine .bind (ev_iTwo _ _ _ _ _ _ _ _) ?_
  rw [h]
  exact .neg (by simp) .some
section
variable {l : List Int} {d u : Bool} {lo hi : Int} {d' u' : Bool} {lo' hi' : Int}
theorem widE_cases : widE (iTwo d u lo hi d' u' lo' hi') l = none ∨ widE (iTwo d u lo hi d' u' lo' hi') l = some 2 ∨ widE (iTwo d u lo hi d' u' lo' hi') l = some 3 := by
  unfold widE
  repeat' split
  all_goals first | exact .inl rfl | exact .inr (.inl rfl) | exact iTwo_cases _ _ _ _ _ _ _ _
theorem widE_none (h : widE (iTwo d u lo hi d' u' lo' hi') l = none) : iTwo d u lo hi d' u' lo' hi' = none ∧ ∀ x ∈ l, farB x = false := by
  unfold widE at h
  cases e : iTwo d u lo hi d' u' lo' hi' with
  | some c => rw [e] at h; simp at h
  | none =>
    refine ⟨rfl, fun x hx => Bool.eq_false_iff.2 fun q => ?_⟩
    rw [e] at h
    simp only [Option.isNone_none, if_true] at h
    split at h
    · cases h
    · rw [if_pos (List.any_eq_true.2 ⟨x, hx, q⟩)] at h
      cases h
/-- Behind 'Widen' and 'Narrow'. -/
theorem law_end {n0 n1 v0 v1 : Bool} {n2 n3 v2 v3 F : Int} {eN : Option Int} (hN : L2_isSpan.f n0 n1 n2 n3 eN v0 v1 v2 v3 F = some true) (hl : l.length ≤ 1000) {W : Bool × Bool × Int × Int × Option Int}
    (hW : W = match widE (iTwo d u lo hi d' u' lo' hi') l with | none => ((sideL l d lo d' lo').1, (sideH l u hi u' hi').1, (sideL l d lo d' lo').2, (sideH l u hi u' hi').2, none) | some c => (false, false, 0, 0, some c)) :
    Ev (fun k => L2_IntervalWiden.j6 k l (errN (widE (iTwo d u lo hi d' u' lo' hi') l)) F W.2.2.2.2 eN d u lo hi d' u' lo' hi' W.1 W.2.1 W.2.2.1 W.2.2.2.1 n0 n1 n2 n3 v0 v1 v2 v3) true := by
  subst hW
  rcases widE_cases (l := l) (d := d) (u := u) (lo := lo) (hi := hi) (d' := d') (u' := u') (lo' := lo') (hi' := hi') with e | e | e
  · have w := widE_none e
    rw [e]
    exact law_j6_good hN hl (iTwo_none.1 w.1).1 w.2
  · rw [e]; exact law_j6_bad hN (.inl rfl)
  · rw [e]; exact law_j6_bad hN (.inr rfl)
theorem law_j4 (hl : l.length ≤ 1000) (i : Int) : Ev (fun k => L2_IntervalWiden.j4 k l (errN (widE (iTwo d u lo hi d' u' lo' hi') l)) (errN (iTwo d u lo hi d' u' lo' hi')) i false d u lo hi d' u' lo' hi') true := by
  obtain ⟨W, hW⟩ : ∃ W : Bool × Bool × Int × Int × Option Int, W = match widE (iTwo d u lo hi d' u' lo' hi') l with | none => ((sideL l d lo d' lo').1, (sideH l u hi u' hi').1, (sideL l d lo d' lo').2, (sideH l u hi u' hi').2, none) | some c => (false, false, 0, 0, some c) := ⟨_, rfl⟩
  have hw : Ev (fun k => interval_Widen.f k d u lo hi d' u' lo' hi' l) W := by
    rw [hW]
    split
    · rename_i e; exact ev_Widen_good e
    · rename_i e; exact ev_Widen_bad e
  refine Ev.step (fun k => by simp only [L2_IntervalWiden.j4, Bool.false_eq_true, if_false, ints_ok hl, Option.bind_some]; rfl) ?_
  refine .bind hw ?_
  cases e : iTwo d u lo hi d' u' lo' hi' with
  | some c =>
    have hc : c = 2 ∨ c = 3 := by
      rcases iTwo_cases d u lo hi d' u' lo' hi' with q | q | q <;> rw [e] at q <;> cases q
      · exact .inl rfl
      · exact .inr rfl
    refine .bind (ev_Narrow_bad e) (.neg (by show ¬ c = 0; omega) ?_)
    have := law_end (F := c) (isSpan_err hc d u lo hi) hl hW
    rw [e] at this
    exact this
  | none =>
    have iv := iTwo_none.1 e
    refine .bind (ev_Narrow iv.1 iv.2) (.pos rfl ?_)
    have fin : ∀ {n0 n1 v0 v1 : Bool} {n2 n3 v2 v3 F : Int} {eN : Option Int}, L2_isSpan.f n0 n1 n2 n3 eN v0 v1 v2 v3 F = some true → Ev (fun k => L2_IntervalWiden.j6 k l (errN (widE none l)) F W.2.2.2.2 eN d u lo hi d' u' lo' hi' W.1 W.2.1 W.2.2.1 W.2.2.2.1 n0 n1 n2 n3 v0 v1 v2 v3) true := by
      intro n0 n1 v0 v1 n2 n3 v2 v3 F eN h
      have := law_end h hl hW
      rw [e] at this
      exact this
    have j5 : ∀ (x0 : Bool) (x2 : Int), x0 = (if d = true then d' else d) → x2 = (if d = true then lo' else lo) → ∀ N : Bool × Bool × Int × Int × Option Int, N = (if void (nar d u lo hi d' u' lo' hi') then (false, false, 0, 0, some 4) else ((nar d u lo hi d' u' lo' hi').1, (nar d u lo hi d' u' lo' hi').2.1, (nar d u lo hi d' u' lo' hi').2.2.1, (nar d u lo hi d' u' lo' hi').2.2.2, none)) →
        Ev (fun k => L2_IntervalWiden.j5 k l (errN (widE none l)) (errN none) W.2.2.2.2 N.2.2.2.2 d u lo hi d' u' lo' hi' W.1 W.2.1 W.2.2.1 W.2.2.2.1 N.1 N.2.1 N.2.2.1 N.2.2.2.1 x0 u x2 hi) true := by
      intro x0 x2 h0 h2 N hN
      by_cases hv : void (nar d u lo hi d' u' lo' hi')
      · rw [if_pos hv] at hN
        subst hN
        have q := hv
        unfold void nar at q
        simp only [← h0, ← h2] at q
        cases u with
        | true =>
          simp only [if_true] at q
          refine Ev.step (fun k => ?_) (fin (isSpan_four x0 u' x2 hi'))
          simp only [L2_IntervalWiden.j5, q.1, q.2.1, Bool.false_eq_true, if_true, if_false, if_pos q.2.2]
        | false =>
          simp only [Bool.false_eq_true, if_false] at q
          refine Ev.step (fun k => ?_) (fin (isSpan_four x0 false x2 hi))
          simp only [L2_IntervalWiden.j5, q.1, Bool.false_eq_true, if_false, if_pos q.2.2]
      · rw [if_neg hv] at hN
        subst hN
        have q := hv
        unfold void nar at q
        simp only [← h0, ← h2] at q
        unfold nar
        simp only [← h0, ← h2]
        cases u with
        | true =>
          simp only [if_true] at q ⊢
          refine Ev.step (fun k => ?_) (fin (isSpan_ok x0 u' x2 hi'))
          simp only [L2_IntervalWiden.j5, if_true]
          cases x0
          · cases u'
            · simp only [Bool.false_eq_true, if_false, if_neg (fun z => q ⟨rfl, rfl, z⟩)]; rfl
            · rfl
          · rfl
        | false =>
          simp only [Bool.false_eq_true, if_false] at q ⊢
          refine Ev.step (fun k => ?_) (fin (isSpan_ok x0 false x2 hi))
          simp only [L2_IntervalWiden.j5, Bool.false_eq_true, if_false]
          cases x0
          · simp only [Bool.false_eq_true, if_false, if_neg (show ¬ x2 > hi from fun z => q ⟨rfl, trivial, z⟩)]; rfl
          · rfl
    refine .ite (fun hd => ?_) (fun hd => ?_)
    · exact j5 d' lo' (by rw [if_pos hd]) (by rw [if_pos hd]) _ rfl
    · exact j5 d lo (by rw [if_neg hd]) (by rw [if_neg hd]) _ rfl
theorem law_skip {x8 x9 : Int} (h8 : x8 ≠ 0) (h : ∀ i, Ev (fun k => L2_IntervalWiden.j4 k l x8 x9 i false d u lo hi d' u' lo' hi') true) (i : Int) : Ev (fun k => L2_IntervalWiden.l0 k l x8 x9 i d u lo hi d' u' lo' hi') true := by
  have e : (x8 == 0) = false := by simpa using h8
  refine Ev.step (fun k => ?_) (h i)
  simp only [L2_IntervalWiden.l0, e, ite_self]
theorem law_l0 (hl : l.length ≤ 20) (e : iTwo d u lo hi d' u' lo' hi' = none) : ∀ (n i : Nat), i + n = l.length → (∀ x ∈ l.take i, farB x = false) → Ev (fun k => L2_IntervalWiden.l0 k l 0 0 (i : Int) d u lo hi d' u' lo' hi') true := by
  have t := fun i => law_j4 (l := l) (d := d) (u := u) (lo := lo) (hi := hi) (d' := d') (u' := u') (lo' := lo') (hi' := hi') (by omega) i
  rw [e] at t
  have c : ¬ ((l.length : Int) > 20) := by omega
  intro n
  induction n with
  | zero =>
    intro i hin hf
    have w : widE none l = none := by
      unfold widE
      rw [if_pos (show (none : Option Int).isNone = true from rfl), if_neg c, if_neg]
      intro q
      obtain ⟨x, hx, hxf⟩ := List.any_eq_true.1 q
      rw [List.take_of_length_le (by omega)] at hf
      rw [hf x hx] at hxf
      cases hxf
    rw [w] at t
    refine Ev.step (fun k => ?_) (t (i : Int))
    simp only [L2_IntervalWiden.l0]
    rw [if_neg (by omega)]
    rfl
  | succ n ih =>
    intro i hin hf
    have hlt : i < l.length := by omega
    have far := far_n (n := 1099511627776) (by omega) l[i]
    change R2_Far.f l[i] 1099511627776 = some (farB l[i]) at far
    refine Ev.step (h := fun k => L2_IntervalWiden.j4 k l 0 0 (i : Int) true d u lo hi d' u' lo' hi') (fun k => by simp only [L2_IntervalWiden.l0]; rw [if_pos (by omega)]; rfl) ?_
    cases hx : farB l[i] with
    | true =>
      have w : widE none l = some 2 := by
        unfold widE
        rw [if_pos (show (none : Option Int).isNone = true from rfl), if_neg c, if_pos]
        exact List.any_eq_true.2 ⟨l[i], List.getElem_mem hlt, hx⟩
      rw [w] at t
      refine Ev.step (fun k => ?_) (law_skip (by decide) t (wrap64 ((i : Int) + 1)))
      simp only [L2_IntervalWiden.j4, if_true]
      rw [if_pos (by omega), if_pos (by omega), rd_get hlt, far, hx]
      rfl
    | false =>
      refine Ev.step (fun k => ?_) (ih (i + 1) (by omega) (fun x hm => ?_))
      · simp only [L2_IntervalWiden.j4, if_true]
        rw [if_pos (by omega), if_pos (by omega), w64 (n := (i : Int) + 1) (by omega) (by omega), rd_get hlt, far, hx]
        rfl
      · rw [List.take_succ_eq_append_getElem hlt, List.mem_append] at hm
        rcases hm with hm | hm
        · exact hf x hm
        · rw [List.mem_singleton.1 hm]; exact hx
theorem pure_IntervalWiden (d u : Bool) (lo hi : Int) (d' u' : Bool) (lo' hi' : Int) (l : List Int) : Ev (fun k => L2_IntervalWiden.f k d u lo hi d' u' lo' hi' l) true := by
  unfold L2_IntervalWiden.f
  refine .bind ev_three (.pos rfl ?_)
  by_cases h : (l.length : Int) > 100
  · refine Ev.step (h := fun _ => some true) (fun k => ?_) .some
    simp only [L2_IntervalWiden.j0]
    rw [decide_eq_true h]
    rfl
  · have t := fun i => law_j4 (l := l) (d := d) (u := u) (lo := lo) (hi := hi) (d' := d') (u' := u') (lo' := lo') (hi' := hi') (by omega) i
    refine Ev.step (h := fun k => (R2_TwoIntervals.f k d u lo hi d' u' lo' hi').bind fun t180 => (if t180 = 0 then (L2_IntervalWiden.j1 k l t180 t180 (decide ((l.length : Int) > 20)) d u lo hi d' u' lo' hi') else (L2_IntervalWiden.j1 k l t180 t180 false d u lo hi d' u' lo' hi'))) (fun k => by simp only [L2_IntervalWiden.j0]; rw [decide_eq_false h]; rfl) ?_
    refine .bind (ev_TwoIntervals _ _ _ _ _ _ _ _) ?_
    have go : ∀ {x8 x9 : Int}, Ev (fun k => L2_IntervalWiden.l0 k l x8 x9 0 d u lo hi d' u' lo' hi') true → Ev (fun k => L2_IntervalWiden.j2 k l x8 x9 d u lo hi d' u' lo' hi') true := fun h => Ev.step (fun k => by simp only [L2_IntervalWiden.j2]) h
    have goF : ∀ {x8 x9 : Int}, Ev (fun k => L2_IntervalWiden.l0 k l x8 x9 0 d u lo hi d' u' lo' hi') true → Ev (fun k => L2_IntervalWiden.j1 k l x8 x9 false d u lo hi d' u' lo' hi') true := fun h => Ev.step (fun k => by simp only [L2_IntervalWiden.j1, Bool.false_eq_true, if_false]) (go h)
    have goT : ∀ {x8 x9 : Int}, Ev (fun k => L2_IntervalWiden.l0 k l 2 x9 0 d u lo hi d' u' lo' hi') true → Ev (fun k => L2_IntervalWiden.j1 k l x8 x9 true d u lo hi d' u' lo' hi') true := fun h => Ev.step (fun k => by simp only [L2_IntervalWiden.j1, if_true]) (go h)
    cases e : iTwo d u lo hi d' u' lo' hi' with
    | some c =>
      have hc : c = 2 ∨ c = 3 := by
        rcases iTwo_cases d u lo hi d' u' lo' hi' with q | q | q <;> rw [e] at q <;> cases q
        · exact .inl rfl
        · exact .inr rfl
      rw [e] at t
      have w : widE (some c) l = some c := rfl
      rw [w] at t
      exact .neg (by show ¬ c = 0; omega) (goF (law_skip (by show c ≠ 0; omega) t 0))
    | none =>
      refine .pos rfl ?_
      by_cases h2 : (l.length : Int) > 20
      · rw [decide_eq_true h2]
        rw [e] at t
        have w : widE none l = some 2 := by unfold widE; rw [if_pos (show (none : Option Int).isNone = true from rfl), if_pos h2]
        rw [w] at t
        exact goT (law_skip (by decide) t 0)
      · rw [decide_eq_false h2]
        exact goF (law_l0 (by omega) e l.length 0 (by omega) (by simp))
end
end Go.Proofs.Rcp
