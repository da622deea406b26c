import Derived.Test.YtjpboodkmhikpaaDoorOrPo
import Derived.Test.YtjpboodkmhikpaaDoorOrOt
import Derived.Test.YtjpboodkmhikpaaDoorOrZ17
/- Plain law: the law 'OctStrong' as it is printed is true, whatever it is given. -/
set_option linter.unusedVariables false
namespace Go.Proofs.Rcp
open Go.RowKit Go.Proofs.Rco Go.Proofs.Rcg Go.Proofs.Rcn Go.Proofs.YtjpboodkmhikpaaDoor.Z Go.Proofs.YtjpboodkmhikpaaDoorW.PrintWords Go.Proofs.YtjpboodkmhikpaaDoorW.PrintMore

theorem op_ix {n p : Nat} (h5 : n ≤ 16) (hp : p < n) : wrap64 ((wrap64 ((wrap64 ((wrap64 (((p : Nat) : Int) * ((n : Nat) : Int))) + (wrap64 ((wrap64 (Int.tdiv ((p : Nat) : Int) 2)) * 2)))) + 1)) - (Int.tmod ((p : Nat) : Int) 2)) = ((p * n + op p : Nat) : Int) := by
  have h : p * n ≤ 16 * 16 := Nat.mul_le_mul (by omega) h5
  rw [Int.tdiv_eq_ediv_of_nonneg (by omega), Int.tmod_eq_emod_of_nonneg (by omega), show (((p : Nat) : Int) * ((n : Nat) : Int)) = ((p * n : Nat) : Int) by push_cast; rfl, w64 (n := ((p * n : Nat) : Int)) (by omega) (by omega), w64 (n := ((p : Nat) : Int) / 2) (by omega) (by omega), w64 (n := ((p : Nat) : Int) / 2 * 2) (by omega) (by omega),
    w64 (n := ((p * n : Nat) : Int) + ((p : Nat) : Int) / 2 * 2) (by omega) (by omega), w64 (n := ((p * n : Nat) : Int) + ((p : Nat) : Int) / 2 * 2 + 1) (by omega) (by omega), w64 (by omega) (by omega)]
  unfold op
  generalize p * n = m
  split <;> omega
theorem op_row {n p : Nat} (h5 : n ≤ 16) (hp : p < n) (ho : op p < n) : wrap64 ((wrap64 ((wrap64 ((wrap64 ((wrap64 ((wrap64 (Int.tdiv ((p : Nat) : Int) 2)) * 2)) + 1)) - (Int.tmod ((p : Nat) : Int) 2))) * ((n : Nat) : Int))) + ((p : Nat) : Int)) = ((op p * n + p : Nat) : Int) := by
  rw [Int.tdiv_eq_ediv_of_nonneg (by omega), Int.tmod_eq_emod_of_nonneg (by omega), w64 (n := ((p : Nat) : Int) / 2) (by omega) (by omega), w64 (n := ((p : Nat) : Int) / 2 * 2) (by omega) (by omega), w64 (n := ((p : Nat) : Int) / 2 * 2 + 1) (by omega) (by omega), w64 (n := ((p : Nat) : Int) / 2 * 2 + 1 - ((p : Nat) : Int) % 2) (by omega) (by omega),
    show ((p : Nat) : Int) / 2 * 2 + 1 - ((p : Nat) : Int) % 2 = ((op p : Nat) : Int) by unfold op; split <;> omega]
  exact ix64 h5 ho hp
section
variable {N : Int} {l : List RC} {n : Nat} {C : List Cel}
theorem str_l2 (h5 : n ≤ 4) (hC : TightO n C) (hb : Near 268435456 C) {p q : Nat} {oh : Bool} {om : Int} (hp : p < 2 * n) (hq : q < 2 * n)
    (hnext : Ev (fun k => L2_OctStrong.l1 k ((2 * n : Nat) : Int) (p : Int) ((q + 1 : Nat) : Int) N l N (oces C) oh om) true) :
    ∀ m r : Nat, r + m = 2 * n → Ev (fun k => L2_OctStrong.l2 k ((2 * n : Nat) : Int) (p : Int) (q : Int) (r : Int) N l N (oces C) oh om (cg C (p * (2 * n) + q)).has (cg C (p * (2 * n) + q)).most) true := by
  intro m
  induction m with
  | zero =>
    intro r hr
    refine Ev.step (fun k => by simp only [L2_OctStrong.l2, up64 (p := q) (by omega)]; rfl) (.neg (by omega) hnext)
  | succ m ih =>
    intro r hr
    have hr' : r < 2 * n := by omega
    have i1 := idx_lt hp hr'
    have i2 := idx_lt hr' hq
    have next := ih (r + 1) (by omega)
    refine Ev.step (fun k => by simp only [L2_OctStrong.l2, ix64 (p := p) (q := r) (by omega) hp hr', ix64 (p := r) (q := q) (by omega) hr' hq, rdO_cg, up64 (p := r) (by omega)]; rfl) (.pos (by omega) (.pos (by omega) (.pos (by rw [oces_length, hC.len]; omega) (.pos (by omega) (.pos (by rw [oces_length, hC.len]; omega) ?_)))))
    have n1 := hb (p * (2 * n) + r)
    have n2 := hb (r * (2 * n) + q)
    have T := hC.tight.shut.tri p r q (cg C (p * (2 * n) + r)).most (cg C (r * (2 * n) + q)).most
    refine .ite (fun ha => .ite (fun hb' => ?_) (fun _ => next)) (fun _ => next)
    have t := T ⟨hp, hr', ha, Int.le_refl _⟩ ⟨hr', hq, hb', Int.le_refl _⟩
    refine .pos t.2.2.1 (.neg ?_ next)
    have t2 := t.2.2.2
    show ¬ ((cg C (p * (2 * n) + q)).most > wrap64 ((cg C (p * (2 * n) + r)).most + (cg C (r * (2 * n) + q)).most))
    rw [w64 (by omega) (by omega)]
    omega
theorem str_l1 (h5 : n ≤ 4) (hC : TightO n C) (hb : Near 268435456 C) {p : Nat} (hp : p < 2 * n)
    (hnext : Ev (fun k => L2_OctStrong.l0 k ((2 * n : Nat) : Int) ((p + 1 : Nat) : Int) N l N (oces C)) true) :
    ∀ m q : Nat, q + m = 2 * n → Ev (fun k => L2_OctStrong.l1 k ((2 * n : Nat) : Int) (p : Int) (q : Int) N l N (oces C) (cg C (p * (2 * n) + op p)).has (cg C (p * (2 * n) + op p)).most) true := by
  intro m
  induction m with
  | zero =>
    intro q hq
    refine Ev.step (fun k => by simp only [L2_OctStrong.l1, up64 (p := p) (by omega)]; rfl) (.neg (by omega) hnext)
  | succ m ih =>
    intro q hq
    have hq' : q < 2 * n := by omega
    have hop := op_lt hp
    have hoq := op_lt hq'
    have i1 := idx_lt hp hq'
    have i2 := idx_lt hoq hq'
    have two := str_l2 (N := N) (l := l) h5 hC hb (oh := (cg C (p * (2 * n) + op p)).has) (om := (cg C (p * (2 * n) + op p)).most) hp hq' (ih (q + 1) (by omega)) (2 * n) 0 (by omega)
    have five : Ev (fun k => L2_OctStrong.j5 k ((2 * n : Nat) : Int) (p : Int) (q : Int) false N l N (oces C) (cg C (p * (2 * n) + op p)).has (cg C (p * (2 * n) + op p)).most (cg C (p * (2 * n) + q)).has (cg C (p * (2 * n) + q)).most) true :=
      Ev.step (fun k => by simp only [L2_OctStrong.j5]; rfl) (.neg (by simp) two)
    refine Ev.step (fun k => by simp only [L2_OctStrong.l1, ix64 (p := p) (q := q) (by omega) hp hq', op_row (p := q) (by omega) hq' hoq, rdO_cg]; rfl) (.pos (by omega) (.pos (by omega) (.pos (by rw [oces_length, hC.len]; omega) (.pos (by omega) (.pos (by rw [oces_length, hC.len]; omega) (.ite (fun ha => .ite (fun hb' => .ite (fun e => five) (fun e => ?_)) (fun _ => five)) (fun _ => five)))))))
    have n1 := hb (p * (2 * n) + op p)
    have n2 := hb (op q * (2 * n) + q)
    have n3 := hb (p * (2 * n) + q)
    obtain ⟨v, hv, h2⟩ := hC.tight.strong p q (cg C (p * (2 * n) + op p)).most (cg C (op q * (2 * n) + q)).most (fun e' => e (by rw [e'])) ⟨hp, hop, ha, Int.le_refl _⟩ ⟨hoq, hq', hb', Int.le_refl _⟩
    have h3 := hv.2.2.2
    refine .pos hv.2.2.1 ?_
    have ed : decide (wrap64 (2 * (oce (cg C (p * (2 * n) + q))).f1) > wrap64 ((cg C (p * (2 * n) + op p)).most + (oce (cg C (op q * (2 * n) + q))).f1)) = false := by
      refine decide_eq_false ?_
      show ¬ (wrap64 (2 * (cg C (p * (2 * n) + q)).most) > wrap64 ((cg C (p * (2 * n) + op p)).most + (cg C (op q * (2 * n) + q)).most))
      rw [w64 (by omega) (by omega), w64 (by omega) (by omega)]
      omega
    rw [ed]
    exact five
end
theorem rowO_tight {n b : Nat} {C : List Cel} (T : TightO n C) (h : Near b C) (hb : b ≤ 1099511627776) : RowO n C := ⟨T.len, T.norm, near_mono h hb, cohL_of T.norm T.tight.coh⟩
theorem str_l0 {N : Int} {l : List RC} (hl : l.length ≤ 1000) {n : Nat} (hn : N = n) (h4 : n ≤ 4) (hE : oErr N (rels l) = none) (R : RowO n (rels l)) {C : List Cel} (hz : closeO (2 * n) (rels l) = some C) (hC : TightO n C) (hb : Near 268435456 C) :
    ∀ m p : Nat, p + m = 2 * n → Ev (fun k => L2_OctStrong.l0 k ((2 * n : Nat) : Int) (p : Int) N l N (oces C)) true := by
  have en : (2 * N).toNat = 2 * n := by omega
  have v1 : octagon_Close.f N (oces C) = some (N, oces C, true, none) := by
    rw [oclose_ok (oErr_ok hn h4 (rowO_tight hC hb (by decide))), shutO_some hn (closeO_tight h4 hC hb (by decide))]
  have hT : oTwo N (rels l) N (rels l) = none := by unfold oTwo; rw [hE]; simp
  have v2 : octagon_Join.f N (oces (rels l)) N (oces (rels l)) = some (N, oces C, none) := by
    unfold octagon_Join.f
    simp only [ocels_oces, hT, en, hz, joinL_same hC.norm]
  have v3 : octagon_Meet.f N (oces (rels l)) N (oces (rels l)) = some (N, oces C, true, none) := by
    unfold octagon_Meet.f
    simp only [ocels_oces, hT, en, metO_self R.len R.coh, shutO_some hn hz]
  have hlC := hC.len
  have hlz : (oces C).length ≤ 1000 := by rw [oces_length, hlC]; exact Nat.le_trans (Nat.mul_le_mul (show 2 * n ≤ 8 by omega) (show 2 * n ≤ 8 by omega)) (by decide)
  intro m
  induction m with
  | zero =>
    intro p hp
    refine Ev.step (fun k => by simp only [L2_OctStrong.l0]; rfl) (.neg (by omega) ?_)
    rw [v1]
    refine .bind .some (.bind (ev_octOf hl) (.bind (ev_octOf hl) ?_))
    simp only [v2]
    refine .bind .some (.bind (ev_octOf hl) (.bind (ev_octOf hl) ?_))
    simp only [v3]
    refine .bind .some (.bind (ev_octBack hlz) (.pos (by first | trivial | rfl) (.pos (by first | trivial | rfl) (.pos (by first | trivial | rfl) (.pos (by first | trivial | rfl) ?_)))))
    have is : Ev (fun k => L2_isOct.f k N (oces C) N (rces (ocels (oces C)))) true := by
      have := ev_isOct (N := N) (M := N) (l := oces C) (m := rces (ocels (oces C))) hlz
      rwa [decide_eq_true (by rw [rels_rces]; exact ⟨rfl, rfl⟩)] at this
    refine Ev.step (fun k => by simp only [L2_OctStrong.j7]; rfl) (.neg (by decide) (.bind is (.pos rfl (.bind is (.pos rfl (.bind is .some))))))
  | succ m ih =>
    intro p hp
    have hp' : p < 2 * n := by omega
    have hop := op_lt hp'
    have i1 := idx_lt hp' hop
    have one := str_l1 (N := N) (l := l) h4 hC hb hp' (ih (p + 1) (by omega)) (2 * n) 0 (by omega)
    have three : ∀ t, t = false → Ev (fun k => L2_OctStrong.j3 k ((2 * n : Nat) : Int) (p : Int) t N l N (oces C) (cg C (p * (2 * n) + op p)).has (cg C (p * (2 * n) + op p)).most) true := fun t ht => by
      subst ht
      exact Ev.step (fun k => by simp only [L2_OctStrong.j3]; rfl) (.neg (by simp) one)
    refine Ev.step (fun k => by simp only [L2_OctStrong.l0, op_ix (p := p) (by omega) hp', rdO_cg]; rfl) (.pos (by omega) (.pos (by omega) (.pos (by rw [oces_length, hlC]; omega) (.ite (fun ha => three _ ?_) (fun _ => three _ rfl)))))
    obtain ⟨h, hh, hle⟩ := hC.tight.even p (cg C (p * (2 * n) + op p)).most ⟨hp', hop, ha, Int.le_refl _⟩
    have := hh.2.2.2
    have e : (cg C (p * (2 * n) + op p)).most = 2 * h := by omega
    show ((cg C (p * (2 * n) + op p)).most.tmod 2 != 0) = false
    rw [e, Int.mul_tmod_right]
    rfl
theorem pure_OctStrong (N : Int) (l : List RC) : Ev (fun k => L2_OctStrong.f k N l) true := by
  have skip : Ev (fun k => L2_OctStrong.j0 k true true N l) true := Ev.step (h := fun _ => some true) (fun k => by simp only [L2_OctStrong.j0, if_true]) .some
  unfold L2_OctStrong.f
  refine .bind ev_odd (.pos rfl (.ite (fun _ => skip) (fun hl => ?_)))
  refine .bind (ev_near l) ?_
  cases hb : nearB (rels l) with
  | false => exact skip
  | true =>
    obtain ⟨hl1, hnear⟩ := nearB_near hb
    rw [rels_length] at hl1
    refine Ev.step (fun k => by simp only [L2_OctStrong.j0, Bool.not_true, Bool.false_eq_true, if_false]; rfl) ?_
    refine .bind (ev_octOf (by omega)) ?_
    cases hE : oErr N (rels l) with
    | some e =>
      rw [oclose_err hE]
      refine .bind .some (.neg (by simp) ?_)
      refine Ev.step (fun k => by simp only [L2_OctStrong.j1]; rfl) ?_
      exact .pos (by first | trivial | rfl) (.neg (by simp) .some)
    | none =>
      rw [oclose_ok hE]
      refine .bind .some (.pos rfl ?_)
      obtain ⟨n, hn, h4, R, en⟩ := nat_of hE
      cases hz : closeO (2 * n) (rels l) with
      | some C =>
        have q := (closeO_iff h4 R).1 (by rw [hz]; simp)
        obtain ⟨e1, hC, hb, _⟩ := closeO_near h4 R.len R.coh.coh R.norm hnear (by decide) q.1 q.2
        rw [hz] at e1
        obtain rfl := Option.some.inj e1
        rw [show (1048576 * 256 : Nat) = 268435456 by decide] at hb
        rw [shutO_some hn hz]
        have hw : (((oces (tightL n (rels l))).length : Int) != (wrap64 ((wrap64 (4 * N)) * N))) = false := by
          rw [oces_length, hC.len, w64 (n := 4 * N) (by omega) (by omega), sq_four (N := N) (n := 2 * n) (by omega)]
          have : 2 * n * (2 * n) ≤ 8 * 8 := Nat.mul_le_mul (by omega) (by omega)
          rw [w64 (by omega) (by omega)]
          simp
        refine .pos rfl ?_
        simp only [hw]
        refine Ev.step (fun k => by simp only [L2_OctStrong.j1, show 2 * N = ((2 * n : Nat) : Int) by omega, w64 (n := ((2 * n : Nat) : Int)) (by omega) (by omega)]; rfl) (.neg (by decide) ?_)
        exact str_l0 (by omega) hn h4 hE R hz hC hb (2 * n) 0 (by omega)
      | none =>
        rw [shutO_none hn hz]
        refine .neg (by decide) ?_
        refine Ev.step (fun k => by simp only [L2_OctStrong.j1]; rfl) ?_
        exact .pos (by first | trivial | rfl) (.pos (by first | trivial | rfl) .some)
end Go.Proofs.Rcp
