import Derived.Test.YtjpboodkmhikpaaDoorOrPo
import Derived.Test.YtjpboodkmhikpaaDoorOrOt
import Derived.Test.YtjpboodkmhikpaaDoorOrZ16
/- Plain law: the law 'OctReached' as it is printed is true, whatever it is given. -/
set_option linter.unusedVariables false
set_option linter.unusedSimpArgs false
namespace Go.Proofs.Rcp
open Go.RowKit Go.Proofs.Rco Go.Proofs.Rcg Go.Proofs.Rcn Go.Proofs.YtjpboodkmhikpaaDoor.Z Go.Proofs.YtjpboodkmhikpaaDoorW.PrintWords Go.Proofs.YtjpboodkmhikpaaDoorW.PrintMore

theorem far_no {m : Int} (h : -1099511627776 ≤ m ∧ m ≤ 1099511627776) : zfar m = false := decide_eq_false (by omega)
/-- A bound put to it that names two variables. -/
theorem guard_val {N : Int} {L : List Cel} {n x y : Nat} {a b m : Int} (hn : N = n) (hE : oErr N L = none) (hx : x < n) (hy : y < n) (hxy : x ≠ y) (ha : a = 1 ∨ a = -1) (hb : b = 1 ∨ b = -1) (hm : -1099511627776 ≤ m ∧ m ≤ 1099511627776) :
    octagon_Guard.f N (oces L) a x b y m = some ((shutO N (leastO (2 * n) L (op (atS b y)) (atS a x) true m)).1, (shutO N (leastO (2 * n) L (op (atS b y)) (atS a x) true m)).2.1, (shutO N (leastO (2 * n) L (op (atS b y)) (atS a x) true m)).2.2, none) := by
  unfold octagon_Guard.f
  rw [ocels_oces, hE]
  simp only
  rw [if_neg (by omega), if_neg (by rw [far_no hm]; decide), if_neg (by omega), show (2 * N).toNat = 2 * n by omega]
  unfold boundL
  rw [if_neg (by omega), if_neg (by omega)]
  rfl
theorem atS_one (x : Nat) : atS 1 x = 2 * x := if_neg (by decide)
theorem atS_mone (x : Nat) : atS (-1) x = 2 * x + 1 := if_pos (by decide)
theorem op_two (x : Nat) : op (2 * x) = 2 * x + 1 := by unfold op; rw [if_pos (by omega)]
theorem op_two1 (x : Nat) : op (2 * x + 1) = 2 * x := by unfold op; rw [if_neg (by omega)]; omega
theorem atS_neg {a : Int} (ha : a = 1 ∨ a = -1) (x : Nat) : atS (-a) x = op (atS a x) := by
  rcases ha with rfl | rfl
  · rw [atS_one, op_two]; exact atS_mone x
  · rw [atS_mone, op_two1]; exact atS_one x
theorem atS_lt' {a : Int} {x n : Nat} (hx : x < n) : atS a x < 2 * n := by unfold atS; split <;> omega
theorem atS_op_ne {a b : Int} {x y : Nat} (h : x ≠ y) : atS a x ≠ op (atS b y) := by unfold atS op; split <;> split <;> split <;> omega
theorem tri64 {n j : Nat} (hn : n ≤ 4) (hj : j < 2 * n) {p : Nat} (hp : p < 2 * n) : wrap64 ((wrap64 ((wrap64 (((j : Nat) : Int) * 2)) * ((n : Nat) : Int))) + ((p : Nat) : Int)) = ((j * (2 * n) + p : Nat) : Int) := by
  have h : j * (2 * n) ≤ 8 * 8 := Nat.mul_le_mul (by omega) (by omega)
  rw [w64 (n := ((j : Nat) : Int) * 2) (by omega) (by omega), show ((j : Nat) : Int) * 2 * ((n : Nat) : Int) = ((j * (2 * n) : Nat) : Int) by push_cast; rw [Int.mul_assoc], w64 (n := ((j * (2 * n) : Nat) : Int)) (by omega) (by omega), w64 (by omega) (by omega)]
  push_cast
  rfl
theorem reach_j5 {N : Int} {l : List RC} (hl : l.length ≤ 1000) {n : Nat} (hn : N = n) (h4 : n ≤ 4) (hE : oErr N (rels l) = none) (R : RowO n (rels l)) {C : List Cel} (T : TightO n C) (hb : Near 268435456 C) (hT : ∀ i j v, Bd (2 * n) C i j v ↔ Ti (WaysO n (rels l)) i j v)
    {x y : Nat} {a b : Int} (hx : x < n) (hy : y < n) (hxy : x ≠ y) (ha : a = 1 ∨ a = -1) (hb1 : b = 1 ∨ b = -1) :
    Ev (fun k => L2_OctReached.j5 k a (x : Int) b (y : Int) ((atS a x : Nat) : Int) ((op (atS b y) : Nat) : Int) N l N (oces C)) true := by
  have hp := atS_lt' (a := a) hx
  have hq := atS_lt' (a := b) hy
  have hj := op_lt hq
  have hi := op_lt hp
  have i1 := idx_lt hj hp
  have hLC : ∀ i j v, Bd (2 * n) (rels l) i j v → Bd (2 * n) C i j v := fun i j v q => (hT _ _ _).2 (.inl (.one ((bd_odiag R.len i j v).2 (.inl q))))
  have hne : atS b y ≠ op (atS a x) := atS_op_ne (fun e => hxy e.symm)
  have na : wrap64 (-a) = -a := w64 (by omega) (by omega)
  have nb : wrap64 (-b) = -b := w64 (by omega) (by omega)
  have g := fun m hm => guard_val (L := rels l) (a := -a) (b := -b) (m := m) hn hE hx hy hxy (by omega) (by omega) hm
  rw [atS_neg ha, atS_neg hb1, op_op] at g
  have hcoh : ∀ v, Bd (2 * n) C (op (atS a x)) (atS b y) v → Bd (2 * n) C (op (atS b y)) (atS a x) v := fun v q => by
    have := T.tight.coh _ _ _ q
    rwa [op_op] at this
  refine Ev.step (fun k => by simp only [L2_OctReached.j5, hn, tri64 h4 hj hp, na, nb, rdO_cg]; rfl) (.pos (by omega) (.pos (by rw [oces_length, T.len]; omega) (.ite (fun hh => ?_) (fun hh => ?_))))
  · have hm := hb (op (atS b y) * (2 * n) + atS a x)
    have e1 : wrap64 (-(oce (cg C (op (atS b y) * (2 * n) + atS a x))).f1) = -(cg C (op (atS b y) * (2 * n) + atS a x)).most := w64 (by show _ ≤ -(cg C _).most; omega) (by show -(cg C _).most ≤ _; omega)
    have e2 : wrap64 (-(cg C (op (atS b y) * (2 * n) + atS a x)).most - 1) = -(cg C (op (atS b y) * (2 * n) + atS a x)).most - 1 := w64 (by omega) (by omega)
    have has : Bd (2 * n) C (op (atS b y)) (atS a x) (cg C (op (atS b y) * (2 * n) + atS a x)).most := ⟨hj, hp, hh, Int.le_refl _⟩
    have s1 := least_some h4 R T hLC hq hi hne (m := -(cg C (op (atS b y) * (2 * n) + atS a x)).most) (by omega) (fun v q => by have := (hcoh v q).2.2.2; omega)
    have s2 := least_none h4 R (fun i j v q => (hT i j v).1 q) hq hi (m := -(cg C (op (atS b y) * (2 * n) + atS a x)).most - 1) (v := (cg C (op (atS b y) * (2 * n) + atS a x)).most) (by omega) (by
      have := T.tight.coh _ _ _ has
      rwa [op_op] at this) (by omega)
    obtain ⟨D, hD⟩ := Option.ne_none_iff_exists'.1 s1
    rw [e1, e2]
    refine .bind (ev_octOf hl) ?_
    rw [← hn, g _ (by omega)]
    refine .bind .some (.bind (ev_octOf hl) ?_)
    rw [g _ (by omega)]
    refine .bind .some ?_
    rw [shutO_some hn hD, shutO_none hn s2]
    exact .pos rfl (.pos rfl (.pos rfl .some))
  · have s1 := least_some h4 R T hLC hq hi hne (m := -33554432) (by omega) (fun v q => absurd (hcoh v q).2.2.1 hh)
    obtain ⟨D, hD⟩ := Option.ne_none_iff_exists'.1 s1
    refine .bind (ev_octOf hl) ?_
    rw [← hn, g _ (by omega)]
    refine .bind .some ?_
    rw [shutO_some hn hD]
    refine .pos rfl (.pos rfl ?_)
    have : (N == N) = true := by simp
    rw [this]
    exact .some
theorem pure_OctReached (N : Int) (l : List RC) (a x b y : Int) : Ev (fun k => L2_OctReached.f k N l a x b y) true := by
  have skip : Ev (fun k => L2_OctReached.j0 k a x b y true true N l) true := Ev.step (h := fun _ => some true) (fun k => by simp only [L2_OctReached.j0, if_true]) .some
  unfold L2_OctReached.f
  refine .bind ev_odd (.pos rfl (.ite (fun _ => skip) (fun hl => ?_)))
  refine .bind (ev_near l) ?_
  cases hb : nearB (rels l) with
  | false => exact skip
  | true =>
    obtain ⟨hl1, hnear⟩ := nearB_near hb
    rw [rels_length] at hl1
    refine Ev.step (fun k => by simp only [L2_OctReached.j0, Bool.not_true, Bool.false_eq_true, if_false]; rfl) ?_
    refine .bind (ev_octOf (by omega)) ?_
    cases hE : oErr N (rels l) with
    | some e =>
      rw [oclose_err hE]
      refine .bind .some (.neg (by simp) ?_)
      refine Ev.step (fun k => by simp only [L2_OctReached.j1]; rfl) ?_
      exact .pos (by first | trivial | rfl) .some
    | none =>
      rw [oclose_ok hE]
      refine .bind .some (.pos rfl ?_)
      obtain ⟨n, hn, h4, R, en⟩ := nat_of hE
      cases hz : closeO (2 * n) (rels l) with
      | none =>
        rw [shutO_none hn hz]
        refine .neg (by decide) ?_
        refine Ev.step (fun k => by simp only [L2_OctReached.j1]; rfl) ?_
        exact .pos (by first | trivial | rfl) .some
      | some C =>
        have q := (closeO_iff h4 R).1 (by rw [hz]; simp)
        obtain ⟨e1, hC, hbC, hT⟩ := closeO_near h4 R.len R.coh.coh R.norm hnear (by decide) q.1 q.2
        rw [hz] at e1
        obtain rfl := Option.some.inj e1
        rw [show (1048576 * 256 : Nat) = 268435456 by decide] at hbC
        rw [shutO_some hn hz]
        generalize tightL n (rels l) = C at *
        refine .pos rfl ?_
        have out : Ev (fun k => L2_OctReached.j1 k a x b y true N l N (oces C)) true :=
          Ev.step (fun k => by simp only [L2_OctReached.j1]; rfl) (.pos (by first | trivial | rfl) .some)
        refine .ite (fun _ => out) (fun hx0 => .ite (fun _ => out) (fun hy0 => .ite (fun _ => out) (fun hx1 => ?_)))
        by_cases hy1 : y ≥ N
        · rw [decide_eq_true hy1]
          exact out
        rw [decide_eq_false hy1]
        obtain ⟨xn, rfl⟩ : ∃ p : Nat, x = p := ⟨x.toNat, by omega⟩
        obtain ⟨yn, rfl⟩ : ∃ p : Nat, y = p := ⟨y.toNat, by omega⟩
        refine Ev.step (fun k => by simp only [L2_OctReached.j1]; rfl) (.neg (by simp) ?_)
        have out2 : Ev (fun k => L2_OctReached.j2 k a xn b yn true N l N (oces C)) true :=
          Ev.step (fun k => by simp only [L2_OctReached.j2]; rfl) (.pos (by first | trivial | rfl) .some)
        refine .ite (fun _ => out2) (fun hxy => ?_)
        have hw : (((oces C).length : Int) != (wrap64 ((wrap64 (4 * N)) * N))) = false := by
          rw [oces_length, hC.len, w64 (n := 4 * N) (by omega) (by omega), sq_four (N := N) (n := 2 * n) (by omega)]
          have : 2 * n * (2 * n) ≤ 8 * 8 := Nat.mul_le_mul (by omega) (by omega)
          rw [w64 (by omega) (by omega)]
          simp
        rw [hw]
        refine Ev.step (fun k => by simp only [L2_OctReached.j2]; rfl) (.neg (by simp) ?_)
        have out3 : Ev (fun k => L2_OctReached.j3 k a xn b yn true N l N (oces C)) true :=
          Ev.step (fun k => by simp only [L2_OctReached.j3]; rfl) (.pos (by first | trivial | rfl) .some)
        have hxn : xn < n := by omega
        have hyn : yn < n := by omega
        have hxy' : xn ≠ yn := fun e => hxy (by rw [e])
        have main : (a = 1 ∨ a = -1) → (b = 1 ∨ b = -1) → Ev (fun k => L2_OctReached.j3 k a xn b yn false N l N (oces C)) true := by
          intro ha hb2
          have five := reach_j5 (l := l) (N := N) (by omega) hn h4 hE R hC hbC hT hxn hyn hxy' ha hb2
          have e1 : wrap64 (2 * (xn : Int)) = 2 * (xn : Int) := w64 (by omega) (by omega)
          have e2 : wrap64 (2 * (xn : Int) + 1) = 2 * (xn : Int) + 1 := w64 (by omega) (by omega)
          have e3 : wrap64 (2 * (yn : Int)) = 2 * (yn : Int) := w64 (by omega) (by omega)
          have e4 : wrap64 (2 * (yn : Int) + 1) = 2 * (yn : Int) + 1 := w64 (by omega) (by omega)
          have four : Ev (fun k => L2_OctReached.j4 k a xn b yn ((atS a xn : Nat) : Int) N l N (oces C)) true := by
            refine Ev.step (fun k => by simp only [L2_OctReached.j4, e3, e4]; rfl) (.ite (fun h => ?_) (fun h => ?_))
            · have : 2 * (yn : Int) = ((op (atS b yn) : Nat) : Int) := by unfold atS op; rw [if_pos h, if_neg (by omega)]; omega
              rw [this]
              exact five
            · have : 2 * (yn : Int) + 1 = ((op (atS b yn) : Nat) : Int) := by unfold atS op; rw [if_neg h, if_pos (by omega)]; omega
              rw [this]
              exact five
          refine Ev.step (fun k => by simp only [L2_OctReached.j3, e1, e2]; rfl) (.neg (by simp) (.ite (fun h => ?_) (fun h => ?_)))
          · have : 2 * (xn : Int) + 1 = ((atS a xn : Nat) : Int) := by unfold atS; rw [if_pos h]; omega
            rw [this]
            exact four
          · have : 2 * (xn : Int) = ((atS a xn : Nat) : Int) := by unfold atS; rw [if_neg h]; omega
            rw [this]
            exact four
        have second : (a = 1 ∨ a = -1) → Ev (fun k => if b = 1 then L2_OctReached.j3 k a xn b yn false N l N (oces C) else L2_OctReached.j3 k a xn b yn (b != (-1)) N l N (oces C)) true := by
          intro ha
          refine .ite (fun h => main ha (.inl h)) (fun h => ?_)
          by_cases hb3 : b = -1
          · have : (b != (-1)) = false := by simp [hb3]
            rw [this]
            exact main ha (.inr hb3)
          · have : (b != (-1)) = true := by simpa using hb3
            rw [this]
            exact out3
        exact .ite (fun h => second (.inl h)) (fun _ => .ite (fun h => second (.inr h)) (fun _ => out3))
end Go.Proofs.Rcp
