/- Plain law: the law 'ZoneTriangle' as it is printed is true, whatever it is given. -/
import Derived.Test.YtjpboodkmhikpaaDoorPz
import Derived.Test.YtjpboodkmhikpaaDoorZ8
set_option linter.unusedVariables false
namespace Go.Proofs.Rcp
open Go.RowKit Go.Proofs.Rcg Go.Proofs.Rcn Go.Proofs.YtjpboodkmhikpaaDoor.Z Go.Proofs.YtjpboodkmhikpaaDoorW.PrintWords Go.Proofs.YtjpboodkmhikpaaDoorW.PrintMore

theorem zErr_ok {N : Int} {L : List Cel} {n : Nat} (hn : N + 1 = n) (h1 : 1 ≤ n) (h5 : n ≤ 5) (hl : L.length = n * n) (hN : Norm L) (hb : Near 1099511627776 L) : zErr N L = none := by
  rw [zErr_eq, if_neg (by omega), if_neg (by rw [hl, hn]; push_cast; simp), if_neg, if_neg]
  · intro h
    obtain ⟨k, _, hk⟩ := (anyFar L).1 h
    have := hb k
    unfold zfar at hk
    have := of_decide_eq_true hk
    omega
  · rw [anyBad_false fun j hj => ?_]
    · decide
    · unfold bad
      cases hh : (cg L j).has with
      | true => rfl
      | false => rw [hN j hh]; rfl
theorem joinL_self {C : List Cel} (h : Norm C) : joinL C C = C := by
  unfold joinL
  refine rep_ind (P := fun X => X = C) (n := C.length) (fun X k _ e => ?_) rfl C.length (Nat.le_refl _)
  subst e
  have : joinC (cg X k) (cg X k) = cg X k := by
    unfold joinC
    have := h k
    rcases hc : cg X k with ⟨a, m⟩
    rw [hc] at this
    cases a with
    | true => simp
    | false => simp at this; simp [this]
  rw [this, set_self]
theorem metL_self (C : List Cel) : metL C C = C := by
  unfold metL
  refine rep_ind (P := fun X => X = C) (n := C.length) (fun X k _ e => ?_) rfl C.length (Nat.le_refl _)
  subst e
  refine leastL_no ?_
  cases (cg X k).has <;> simp
theorem ix64 {n p q : Nat} (h5 : n ≤ 16) (hp : p < n) (hq : q < n) : wrap64 ((wrap64 (((p : Nat) : Int) * ((n : Nat) : Int))) + ((q : Nat) : Int)) = ((p * n + q : Nat) : Int) := by
  have h : p * n ≤ 16 * 16 := Nat.mul_le_mul (by omega) h5
  rw [show (((p : Nat) : Int) * (n : Int)) = ((p * n : Nat) : Int) by push_cast; rfl, w64 (n := ((p * n : Nat) : Int)) (by omega) (by omega), w64 (by omega) (by omega)]
  push_cast
  rfl
theorem up64 {p : Nat} (hp : p ≤ 1000) : wrap64 (((p : Nat) : Int) + 1) = ((p + 1 : Nat) : Int) := by
  rw [w64 (by omega) (by omega)]; push_cast; rfl

section
variable {N : Int} {l : List RC} {n : Nat} {C : List Cel}
theorem tri_l2 (h5 : n ≤ 5) (hC : Closed n C) (hb : Near 4294967296 C) {p q : Nat} (hp : p < n) (hq : q < n) (hnext : Ev (fun k => L2_ZoneTriangle.l1 k (n : Int) (p : Int) ((q + 1 : Nat) : Int) N l N (zces C)) true) :
    ∀ m r : Nat, r + m = n → Ev (fun k => L2_ZoneTriangle.l2 k (n : Int) (p : Int) (q : Int) (r : Int) N l N (zces C)) true := by
  intro m
  induction m with
  | zero =>
    intro r hr
    refine Ev.step (fun k => by simp only [L2_ZoneTriangle.l2, up64 (p := q) (by omega)]; rfl) (.neg (by omega) hnext)
  | succ m ih =>
    intro r hr
    have hr' : r < n := by omega
    have i1 := idx_lt hp hr'
    have i2 := idx_lt hr' hq
    have i3 := idx_lt hp hq
    have next := ih (r + 1) (by omega)
    refine Ev.step (fun k => by simp only [L2_ZoneTriangle.l2, ix64 (p := p) (q := r) (by omega) hp hr', ix64 (p := r) (q := q) (by omega) hr' hq, ix64 (p := p) (q := q) (by omega) hp hq, rdZ_cg, up64 (p := r) (by omega)]; rfl) (.pos (by omega) (.pos (by omega) (.pos (by rw [zces_length, hC.len]; omega) (.pos (by omega) (.pos (by rw [zces_length, hC.len]; omega) (.pos (by omega) (.pos (by rw [zces_length, hC.len]; omega) ?_)))))))
    have n1 := hb (p * n + r)
    have n2 := hb (r * n + q)
    have T := hC.tri p r q (cg C (p * n + r)).most (cg C (r * n + q)).most
    refine .ite (fun ha => .ite (fun hb' => ?_) (fun _ => next)) (fun _ => next)
    have t := T ⟨hp, hr', ha, Int.le_refl _⟩ ⟨hr', hq, hb', Int.le_refl _⟩
    refine .pos t.2.2.1 (.neg ?_ next)
    have t2 := t.2.2.2
    show ¬ ((cg C (p * n + q)).most > wrap64 ((cg C (p * n + r)).most + (cg C (r * n + q)).most))
    rw [w64 (by omega) (by omega)]
    omega
theorem tri_l1 (h5 : n ≤ 5) (hC : Closed n C) (hb : Near 4294967296 C) {p : Nat} (hp : p < n) (hnext : Ev (fun k => L2_ZoneTriangle.l0 k (n : Int) ((p + 1 : Nat) : Int) N l N (zces C)) true) :
    ∀ m q : Nat, q + m = n → Ev (fun k => L2_ZoneTriangle.l1 k (n : Int) (p : Int) (q : Int) N l N (zces C)) true := by
  intro m
  induction m with
  | zero =>
    intro q hq
    refine Ev.step (fun k => by simp only [L2_ZoneTriangle.l1, up64 (p := p) (by omega)]; rfl) (.neg (by omega) hnext)
  | succ m ih =>
    intro q hq
    refine Ev.step (fun k => by simp only [L2_ZoneTriangle.l1]; rfl) (.pos (by omega) ?_)
    exact tri_l2 h5 hC hb hp (by omega) (ih (q + 1) (by omega)) n 0 (by omega)
end
theorem tri_l0 {N : Int} {l : List RC} (hl : l.length ≤ 1000) {n : Nat} (hn : N + 1 = n) (h1 : 1 ≤ n) (h5 : n ≤ 5) (hE : zErr N (rels l) = none) (hlen : (rels l).length = n * n) (hnear : Near 1048576 (rels l)) (hf : Fine (Bd n (diag n (rels l)))) :
    ∀ m p : Nat, p + m = n → Ev (fun k => L2_ZoneTriangle.l0 k (n : Int) (p : Int) N l N (zces (preFree n (rels l)))) true := by
  obtain ⟨hz, hC, hb⟩ := closeZ_near h5 hlen (norm_of hE) hnear (by decide) hf
  rw [show (1048576 * 4096 : Nat) = 4294967296 by decide] at hb
  have en : (N + 1).toNat = n := by omega
  have v1 : zone_Close.f N (zces (preFree n (rels l))) = some (N, zces (preFree n (rels l)), true, none) := by
    rw [close_ok (zErr_ok hn h1 h5 hC.len hC.norm (near_mono hb (by decide))), shutZ_some hn (closeZ_closed h5 hC (near_mono hb (by decide)))]
  have hT : zTwo N (rels l) N (rels l) = none := by unfold zTwo; rw [hE]; simp
  have v2 : zone_Join.f N (zces (rels l)) N (zces (rels l)) = some (N, zces (preFree n (rels l)), none) := by
    unfold zone_Join.f
    simp only [cels_zces, hT, en, hz, joinL_self hC.norm]
  have v3 : zone_Meet.f N (zces (rels l)) N (zces (rels l)) = some (N, zces (preFree n (rels l)), true, none) := by
    unfold zone_Meet.f
    simp only [cels_zces, hT, metL_self, shutZ_some hn hz]
  have hlC := hC.len
  generalize preFree n (rels l) = C at *
  have hlz : (zces C).length ≤ 1000 := by rw [zces_length, hlC]; exact Nat.le_trans (Nat.mul_le_mul h5 h5) (by decide)
  intro m
  induction m with
  | zero =>
    intro p hp
    refine Ev.step (fun k => by simp only [L2_ZoneTriangle.l0]; rfl) (.neg (by omega) ?_)
    rw [v1]
    refine .bind .some (.bind (ev_zoneOf hl) (.bind (ev_zoneOf hl) ?_))
    simp only [v2]
    refine .bind .some (.bind (ev_zoneOf hl) (.bind (ev_zoneOf hl) ?_))
    simp only [v3]
    refine .bind .some (.bind (ev_zoneBack hlz) (.pos (by first | trivial | rfl) (.pos (by first | trivial | rfl) (.pos (by first | trivial | rfl) (.pos (by first | trivial | rfl) ?_)))))
    have is : Ev (fun k => L2_isZone.f k N (zces C) N (rces (cels (zces C)))) true := by
      have := ev_isZone (N := N) (M := N) (l := zces C) (m := rces (cels (zces C))) hlz
      rwa [decide_eq_true (by rw [rels_rces]; exact ⟨rfl, rfl⟩)] at this
    refine Ev.step (fun k => by simp only [L2_ZoneTriangle.j5]; rfl) (.neg (by decide) (.bind is (.pos rfl (.bind is (.pos rfl (.bind is .some))))))
  | succ m ih =>
    intro p hp
    have hp' : p < n := by omega
    have i1 := idx_lt hp' hp'
    refine Ev.step (fun k => by simp only [L2_ZoneTriangle.l0, ix64 (p := p) (q := p) (by omega) hp' hp', rdZ_cg, hC.cell hp']; rfl) (.pos (by omega) (.pos (by omega) (.pos (by rw [zces_length, hlC]; omega) (.neg (by decide) ?_))))
    exact tri_l1 h5 hC hb hp' (ih (p + 1) (by omega)) n 0 (by omega)
theorem pure_ZoneTriangle (N : Int) (l : List RC) : Ev (fun k => L2_ZoneTriangle.f k N l) true := by
  have skip : Ev (fun k => L2_ZoneTriangle.j0 k true true N l) true := Ev.step (h := fun _ => some true) (fun k => by simp only [L2_ZoneTriangle.j0, if_true]) .some
  unfold L2_ZoneTriangle.f
  refine .bind ev_free (.pos rfl (.ite (fun _ => skip) (fun hl => ?_)))
  refine .bind (ev_near l) ?_
  cases hb : nearB (rels l) with
  | false => exact skip
  | true =>
    obtain ⟨hl1, hnear⟩ := nearB_near hb
    rw [rels_length] at hl1
    refine Ev.step (fun k => by simp only [L2_ZoneTriangle.j0, Bool.not_true, Bool.false_eq_true, if_false]; rfl) ?_
    refine .bind (ev_zoneOf (by omega)) ?_
    cases hE : zErr N (rels l) with
    | some e =>
      rw [close_err hE]
      refine .bind .some (.neg (by simp) ?_)
      refine Ev.step (fun k => by simp only [L2_ZoneTriangle.j1]; rfl) ?_
      exact .pos (by first | trivial | rfl) (.neg (by simp) .some)
    | none =>
      rw [close_ok hE]
      refine .bind .some (.pos rfl ?_)
      obtain ⟨n, hn, hn1, hn5, hlen, _, _⟩ := zErr_none hE
      by_cases hf : Fine (Bd n (diag n (rels l)))
      · obtain ⟨hC, hclosed, hnearC⟩ := closeZ_near hn5 hlen (norm_of hE) hnear (by decide) hf
        rw [shutZ_some hn hC]
        have hw : (((zces (preFree n (rels l))).length : Int) != (wrap64 ((wrap64 (N + 1)) * (wrap64 (N + 1))))) = false := by
          rw [zces_length, free_length' hlen, sq64 hn (by omega)]
          simp
        refine .pos rfl ?_
        simp only [hw]
        refine Ev.step (fun k => by simp only [L2_ZoneTriangle.j1, hn, w64 (n := (n : Int)) (by omega) (by omega)]; rfl) (.neg (by decide) ?_)
        exact tri_l0 (by omega) hn hn1 hn5 hE hlen hnear hf n 0 (by omega)
      · rw [shutZ_none hn ((closeZ_none hn5 hlen (near_mono hnear (by decide))).2 hf)]
        refine .neg (by decide) ?_
        refine Ev.step (fun k => by simp only [L2_ZoneTriangle.j1]; rfl) ?_
        exact .pos (by first | trivial | rfl) (.pos (by first | trivial | rfl) .some)
end Go.Proofs.Rcp
