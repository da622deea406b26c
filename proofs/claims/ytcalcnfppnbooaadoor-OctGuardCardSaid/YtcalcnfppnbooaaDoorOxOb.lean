import Derived.Test.YtcalcnfppnbooaaDoorOxOz
import Derived.Test.YtcalcnfppnbooaaDoorOxObp
import Derived.Test.YtcalcnfppnbooaaDoorOxZ34
/- Plain law: the reference's bound of two variables of an octagon: what it comes to. -/
set_option linter.unusedVariables false
set_option linter.unusedSimpArgs false
namespace Go.Proofs.Rcp
open Go.RowKit Go.Proofs.Rco Go.Proofs.Rcg Go.Proofs.Rcn Go.Proofs.YtcalcnfppnbooaaDoor.Z Go.Proofs.YtcalcnfppnbooaaDoorW.PrintWords Go.Proofs.YtcalcnfppnbooaaDoorW.PrintMore

/-- Both cells of a bound lowered. -/
theorem bound_pair {L : List Cel} {n p q : Nat} (h4 : n ≤ 4) (hl : L.length = 2 * n * (2 * n)) (hp : p < 2 * n) (hq : q < 2 * n) (c N : Int) (k : Nat) :
    ((R2_other.f (q : Int)).bind fun t => (R2_lower.f (rces L) (wrap64 ((wrap64 (t * ((2 * n : Nat) : Int))) + (p : Int))) c).bind fun b => (R2_other.f (p : Int)).bind fun t2 => (R2_lower.f b.2 (wrap64 ((wrap64 (t2 * ((2 * n : Nat) : Int))) + (q : Int))) c).bind fun b2 => some (N, b2.2))
      = some (N, rces (leastO (2 * n) L (op q) p true c)) := by
  have i1 := idx_lt (op_lt hq) hp
  have i2 := idx_lt (op_lt hp) hq
  rw [bsome (other_val (i := q) (by omega)), ix64 (p := op q) (q := p) (by omega) (op_lt hq) hp]
  obtain ⟨b, e⟩ := lower_val (L := L) (i := op q * (2 * n) + p) (by omega) c
  rw [bsome e, bsome (other_val (i := p) (by omega)), ix64 (p := op p) (q := q) (by omega) (op_lt hp) hq]
  obtain ⟨b2, e2⟩ := lower_val (L := leastL L (op q * (2 * n) + p) true c) (i := op p * (2 * n) + q) (by rw [leastL_length]; omega) c
  rw [bsome e2]
  unfold leastO
  rw [op_op]
theorem ev_BoundOct {N : Int} {n x y : Nat} {l : List RC} {a b c : Int} (hn : N = n) (h4 : n ≤ 4) (hl : (rels l).length = 2 * n * (2 * n)) (hx : x < n) (hy : y < n) (hc : -1099511627776 ≤ c ∧ c ≤ 1099511627776) (hab : ¬ (a = 0 ∧ b = 0)) :
    Ev (fun k => R2_BoundOct.f k N l a (x : Int) b (y : Int) c) (N, rces (boundL (2 * n) a x b y c (rels l))) := by
  have hlen : l.length ≤ 8 * 8 := by
    rw [← rels_length, hl]; exact Nat.mul_le_mul (by omega) (by omega)
  have hp := atS_le (a := a) hx
  have hq := atS_le (a := b) hy
  unfold R2_BoundOct.f
  refine .pos (by simp; omega) ?_
  rw [List.nil_append]
  refine .bind .some ?_
  rw [← rces_rels l, rels_rces]
  generalize rels l = L at hl ⊢
  have a1 : wrap64 (2 * N) = ((2 * n : Nat) : Int) := by rw [w64 (by omega) (by omega)]; push_cast; omega
  have a2 : wrap64 (2 * c) = 2 * c := w64 (by omega) (by omega)
  rw [a1]
  have five : ∀ (c' : Int) (p q : Nat) (R : List Cel), p < 2 * n → q < 2 * n → R = leastO (2 * n) L (op q) p true c' → Ev (fun k => R2_BoundOct.j5 k c' ((2 * n : Nat) : Int) (p : Int) (q : Int) N (rces L)) (N, rces R) := by
    intro c' p q R h1 h2 h3
    subst h3
    refine Ev.step (fun k => by simp only [R2_BoundOct.j5]; rfl) ?_
    exact .of fun k => bound_pair h4 hl h1 h2 c' N k
  have main : Ev (fun k => R2_BoundOct.j1 k a b c ((2 * n : Nat) : Int) ((atS a x : Nat) : Int) ((atS b y : Nat) : Int) N (rces L)) (N, rces (boundL (2 * n) a x b y c L)) := by
    refine Ev.step (fun k => by simp only [R2_BoundOct.j1]; rfl) (.ite (fun ha => ?_) (fun ha => ?_))
    · have hb : b ≠ 0 := fun h => hab ⟨ha, h⟩
      refine Ev.step (fun k => by simp only [R2_BoundOct.j2]; rfl) (.neg hb ?_)
      refine Ev.step (fun k => by simp only [R2_BoundOct.j3]; rfl) (.pos ha ?_)
      refine Ev.step (fun k => by simp only [R2_BoundOct.j4, a2, if_true]; rfl) ?_
      exact five _ _ _ _ hq hq (by unfold boundL; rw [if_pos ha])
    · refine Ev.step (fun k => by simp only [R2_BoundOct.j2]; rfl) (.ite (fun hb => ?_) (fun hb => ?_))
      · refine Ev.step (fun k => by simp only [R2_BoundOct.j3]; rfl) (.neg ha ?_)
        rw [show (b == 0) = true by simpa using hb]
        refine Ev.step (fun k => by simp only [R2_BoundOct.j4, a2, if_true]; rfl) ?_
        exact five _ _ _ _ hp hp (by unfold boundL; rw [if_neg ha, if_pos hb])
      · refine Ev.step (fun k => by simp only [R2_BoundOct.j3]; rfl) (.neg ha ?_)
        rw [show (b == 0) = false by simpa using hb]
        refine Ev.step (fun k => by simp only [R2_BoundOct.j4, Bool.false_eq_true, if_false]; rfl) ?_
        exact five _ _ _ _ hp hq (by unfold boundL; rw [if_neg ha, if_neg hb])
  have t0 : ∀ z : Nat, z < n → wrap64 (2 * (z : Int)) = ((2 * z : Nat) : Int) := fun z hz => by rw [w64 (by omega) (by omega)]; push_cast; rfl
  have t1 : ∀ z : Nat, z < n → wrap64 ((wrap64 (2 * (z : Int))) + 1) = ((2 * z + 1 : Nat) : Int) := fun z hz => by rw [t0 z hz, w64 (by omega) (by omega)]; push_cast; rfl
  have zero : Ev (fun k => R2_BoundOct.j0 k a b (y : Int) c ((2 * n : Nat) : Int) ((atS a x : Nat) : Int) N (rces L)) (N, rces (boundL (2 * n) a x b y c L)) := by
    refine Ev.step (fun k => by simp only [R2_BoundOct.j0]; rfl) (.ite (fun hb => ?_) (fun hb => ?_))
    · rw [t1 y hy]
      have : atS b y = 2 * y + 1 := if_pos hb
      rw [← this]; exact main
    · rw [t0 y hy]
      have : atS b y = 2 * y := if_neg hb
      rw [← this]; exact main
  refine .ite (fun ha => ?_) (fun ha => ?_)
  · rw [t1 x hx]
    have : atS a x = 2 * x + 1 := if_pos ha
    rw [← this]; exact zero
  · rw [t0 x hx]
    have : atS a x = 2 * x := if_neg ha
    rw [← this]; exact zero
end Go.Proofs.Rcp
