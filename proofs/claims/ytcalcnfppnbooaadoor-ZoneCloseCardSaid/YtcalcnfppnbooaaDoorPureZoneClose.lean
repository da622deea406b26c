/- Plain law: the law 'ZoneClose' as it is printed is true, whatever it is given. -/
import Derived.Test.YtcalcnfppnbooaaDoorZr
import Derived.Test.YtcalcnfppnbooaaDoorZ8
set_option linter.unusedVariables false
set_option linter.unusedSimpArgs false
namespace Go.Proofs.Rcp
open Go.RowKit Go.Proofs.Rcg Go.Proofs.Rcn Go.Proofs.YtcalcnfppnbooaaDoor.Z Go.Proofs.YtcalcnfppnbooaaDoorW.PrintWords Go.Proofs.YtcalcnfppnbooaaDoorW.PrintMore

def hasErr (N : Int) (L : List Cel) (p : List Int) : Option Int := match zErr N L with | some e => some e | none => if (p.length : Int) ≠ N then some 3 else if p.any zfar = true then some 2 else none
theorem has_all {N : Int} {L : List Cel} {p : List Int} : zone_Has.f N (zces L) p = some (match hasErr N L p with | some _ => false | none => hasAll (N + 1).toNat L (0 :: p), hasErr N L p) := by
  unfold zone_Has.f hasErr
  rw [cels_zces]
  cases h : zErr N L with
  | some e => rfl
  | none =>
    simp only
    by_cases h1 : (p.length : Int) ≠ N
    · rw [if_pos h1, if_pos h1]
    · rw [if_neg h1, if_neg h1]
      by_cases h2 : p.any zfar = true
      · rw [if_pos h2, if_pos h2]
      · rw [if_neg h2, if_neg h2]
/-- One of the errors that a zone comes to. -/
def few (o : Option Int) : Prop := o = none ∨ o = some 2 ∨ o = some 3
theorem coded_few {o : Option Int} (h : few o) (a : Int) : L2_coded.f o a = some (decide (eN o = a)) := by
  rcases h with rfl | rfl | rfl <;> simp [L2_coded.f]
theorem few_zErr (N : Int) (L : List Cel) : few (zErr N L) := by
  rw [zErr_eq]
  repeat' split
  all_goals first | exact .inl rfl | exact .inr (.inl rfl) | exact .inr (.inr rfl)
theorem few_hasErr (N : Int) (L : List Cel) (p : List Int) : few (hasErr N L p) := by
  unfold hasErr
  have := few_zErr N L
  cases h : zErr N L with
  | some e => rw [h] at this; exact this
  | none =>
    simp only
    repeat' split
    all_goals first | exact .inl rfl | exact .inr (.inl rfl) | exact .inr (.inr rfl)

section
variable {N : Int} {l : List RC} {p : List Int}
theorem zclose_j6 (hl : l.length ≤ 100) : Ev (fun k => L2_ZoneClose.j6 k (eN (zErr N (rels l))) (match zErr N (rels l) with | some _ => false | none => (shutZ N (rels l)).2.2) (zErr N (rels l)) false N l (match zErr N (rels l) with | some _ => 0 | none => (shutZ N (rels l)).1) (match zErr N (rels l) with | some _ => [] | none => (shutZ N (rels l)).2.1)) true := by
  refine Ev.step (fun k => by simp only [L2_ZoneClose.j6, Bool.false_eq_true, if_false]; rfl) ?_
  have hf := few_zErr N (rels l)
  cases hE : zErr N (rels l) with
  | some e =>
    rw [hE] at hf
    have he : e > 0 := by rcases hf with h | h | h <;> cases h <;> decide
    simp only
    refine .pos (show eN (some e) > 0 from he) ?_
    rw [coded_few hf]
    refine .bind .some (.pos (by simp) (.neg (by decide) ?_))
    exact .of fun k => rfl
  | none =>
    obtain ⟨n, hn, h1, h5, hlen, _, _⟩ := zErr_none hE
    simp only
    refine .neg (by decide) (.bind (ev_near l) ?_)
    cases hb : nearB (rels l) with
    | false => exact .neg (by decide) (.pos rfl .some)
    | true =>
      obtain ⟨_, hnear⟩ := nearB_near hb
      have hC := ev_Closed hn (by omega) hlen
      rw [refClose_eq h5 hlen (norm_of hE) hnear (by decide)] at hC
      refine .pos rfl (.bind hC (.pos rfl ?_))
      unfold shutZ
      rw [show (N + 1).toNat = n by omega]
      cases hz : closeZ n (rels l) with
      | none =>
        refine .pos (by rfl) ?_
        have := ev_isZone (N := 0) (M := 0) (l := []) (m := []) (by decide)
        exact .bind this .some
      | some C =>
        refine .pos (by rfl) ?_
        have hCl := (closed_some h5 hlen (near_of hE) hz).1
        have := ev_isZone (N := N) (M := N) (l := zces C) (m := rces C) (by rw [zces_length, hCl]; exact Nat.le_trans (Nat.mul_le_mul h5 h5) (by decide))
        rw [decide_eq_true (by rw [cels_zces, rels_rces]; exact ⟨rfl, rfl⟩)] at this
        exact .bind this .some
theorem zclose_j5 (hl : l.length ≤ 100) {f : Int} {b : Bool} (hf : f = eN (hasErr N (rels l) p)) (hb : b = (match hasErr N (rels l) p with | some _ => false | none => hasAll (N + 1).toNat (rels l) (0 :: p))) :
    Ev (fun k => L2_ZoneClose.j5 k (eN (zErr N (rels l))) (match zErr N (rels l) with | some _ => false | none => (shutZ N (rels l)).2.2) (zErr N (rels l)) (match hasErr N (rels l) p with | some _ => false | none => hasAll (N + 1).toNat (rels l) (0 :: p)) (hasErr N (rels l) p) f b N l (match zErr N (rels l) with | some _ => 0 | none => (shutZ N (rels l)).1) (match zErr N (rels l) with | some _ => [] | none => (shutZ N (rels l)).2.1)) true := by
  refine Ev.step (fun k => by simp only [L2_ZoneClose.j5]; rfl) ?_
  rw [coded_few (few_hasErr _ _ _), hf, hb]
  refine .bind .some (.pos (by simp) ?_)
  rw [bne_self_eq_false]
  exact zclose_j6 hl
theorem pure_ZoneClose (N : Int) (l : List RC) (p : List Int) : Ev (fun k => L2_ZoneClose.f k N l p) true := by
  have skip : Ev (fun k => L2_ZoneClose.j0 k p true true N l) true := Ev.step (h := fun _ => some true) (fun k => by simp only [L2_ZoneClose.j0, if_true]) .some
  unfold L2_ZoneClose.f
  refine .bind ev_free (.pos rfl (.ite (fun _ => skip) (fun hl => ?_)))
  by_cases hp : (p.length : Int) > 100
  · rw [decide_eq_true hp]; exact skip
  rw [decide_eq_false hp]
  have Z := ev_zoneOf (N := N) (l := l) (by omega)
  refine Ev.step (fun k => by simp only [L2_ZoneClose.j0, Bool.false_eq_true, if_false]; rfl) (.bind (ev_ZoneError (by omega)) (.bind Z ?_))
  have hclose : zone_Close.f N (zces (rels l)) = some (match zErr N (rels l) with | some _ => 0 | none => (shutZ N (rels l)).1, match zErr N (rels l) with | some _ => [] | none => (shutZ N (rels l)).2.1, match zErr N (rels l) with | some _ => false | none => (shutZ N (rels l)).2.2, zErr N (rels l)) := by
    cases h : zErr N (rels l) with
    | some e => rw [close_err h]
    | none => rw [close_ok h]
  simp only [hclose]
  refine .bind .some (.bind Z ?_)
  rw [ints_val (by omega)]
  refine .bind .some ?_
  simp only [has_all]
  refine .bind .some (.bind Z ?_)
  have hval : zone_Valid.f N (zces (rels l)) = some (zErr N (rels l)) := by unfold zone_Valid.f; rw [cels_zces]
  simp only [hval]
  refine .bind .some ?_
  rw [coded_few (few_zErr _ _)]
  refine .bind .some (.pos (by simp) ?_)
  -- the errors of the point
  have hz := few_zErr N (rels l)
  have loop : ∀ f, (f ≠ 0 → f = eN (hasErr N (rels l) p)) → (f = 0 → zErr N (rels l) = none ∧ (p.length : Int) = N) → ∀ m i : Nat, i + m = p.length → (∀ j, j < i → zfar (p.getD j 0) = false) →
      Ev (fun k => L2_ZoneClose.l0 k p (eN (zErr N (rels l))) (match zErr N (rels l) with | some _ => false | none => (shutZ N (rels l)).2.2) (zErr N (rels l)) (match hasErr N (rels l) p with | some _ => false | none => hasAll (N + 1).toNat (rels l) (0 :: p)) (hasErr N (rels l) p) f (i : Int) N l (match zErr N (rels l) with | some _ => 0 | none => (shutZ N (rels l)).1) (match zErr N (rels l) with | some _ => [] | none => (shutZ N (rels l)).2.1)) true := by
    intro f hf1 hf0 m i hi hall
    by_cases h0 : f = 0
    · subst h0
      obtain ⟨hE, hpn⟩ := hf0 rfl
      obtain ⟨n, hn, h1, h5, hlen, _, _⟩ := zErr_none hE
      induction m generalizing i with
      | zero =>
        have hany : p.any zfar = false := by
          rw [Bool.eq_false_iff]
          intro q
          obtain ⟨k, hk, hk'⟩ := (any_iff zfar p).1 q
          rw [hall k (by omega)] at hk'
          cases hk'
        have hh : hasErr N (rels l) p = none := by unfold hasErr; rw [hE]; simp only; rw [if_neg (by omega), hany]; rfl
        have hfar : ∀ z ∈ p, -1099511627776 ≤ z ∧ z ≤ 1099511627776 := by
          intro z hz'
          have : zfar z = false := by
            rw [Bool.eq_false_iff]; intro q
            exact Bool.eq_false_iff.1 hany (List.any_eq_true.2 ⟨z, hz', q⟩)
          have := of_decide_eq_false this
          omega
        refine Ev.step (fun k => by simp only [L2_ZoneClose.l0]; rfl) (.neg (by omega) ?_)
        refine Ev.step (fun k => by simp only [L2_ZoneClose.j4, Bool.false_eq_true, if_false]; rfl) (.pos (show (0 : Int) = 0 from rfl) (.bind (ev_Has hn h1 (by omega) hlen hpn hfar) ?_))
        exact zclose_j5 (by omega) (by rw [hh]; rfl) (by rw [hh, show (N + 1).toNat = n by omega])
      | succ m ih =>
        refine Ev.step (fun k => by simp only [L2_ZoneClose.l0]; rfl) (.pos (by omega) ?_)
        refine Ev.step (fun k => by simp only [L2_ZoneClose.j4, up64 (p := i) (by omega), far_max]; rfl) (.pos (show ((0 : Int) == 0) = true from rfl) (.pos (by omega) (.pos (by omega) (.bind .some ?_))))
        have e : rd p (i : Int) = p.getD i 0 := rfl
        rw [e]
        refine .ite (fun hz' => ?_) (fun hz' => ?_)
        · have hany : p.any zfar = true := (any_iff zfar p).2 ⟨i, by omega, hz'⟩
          have hh : hasErr N (rels l) p = some 2 := by unfold hasErr; rw [hE]; simp only; rw [if_neg (by omega), if_pos hany]
          have stop : Ev (fun k => L2_ZoneClose.j4 k p (eN (zErr N (rels l))) (match zErr N (rels l) with | some _ => false | none => (shutZ N (rels l)).2.2) (zErr N (rels l)) (match hasErr N (rels l) p with | some _ => false | none => hasAll (N + 1).toNat (rels l) (0 :: p)) (hasErr N (rels l) p) 2 ((i + 1 : Nat) : Int) false N l (match zErr N (rels l) with | some _ => 0 | none => (shutZ N (rels l)).1) (match zErr N (rels l) with | some _ => [] | none => (shutZ N (rels l)).2.1)) true :=
            Ev.step (fun k => by simp only [L2_ZoneClose.j4, Bool.false_eq_true, if_false]; rfl) (.neg (by decide) (zclose_j5 (by omega) (by rw [hh]; rfl) (by rw [hh])))
          exact Ev.step (fun k => by simp only [L2_ZoneClose.l0]; rfl) (.ite (fun _ => stop) (fun _ => stop))
        · refine ih (i + 1) (by omega) fun j hj => ?_
          rcases Nat.lt_or_ge j i with h | h
          · exact hall j h
          · obtain rfl : j = i := by omega
            simpa using hz'
    · have hf := hf1 h0
      have hne : ∃ e, hasErr N (rels l) p = some e := by
        cases h : hasErr N (rels l) p with
        | some e => exact ⟨e, rfl⟩
        | none => rw [h] at hf; exact absurd hf h0
      obtain ⟨e, he⟩ := hne
      have stop : Ev (fun k => L2_ZoneClose.j4 k p (eN (zErr N (rels l))) (match zErr N (rels l) with | some _ => false | none => (shutZ N (rels l)).2.2) (zErr N (rels l)) (match hasErr N (rels l) p with | some _ => false | none => hasAll (N + 1).toNat (rels l) (0 :: p)) (hasErr N (rels l) p) f (i : Int) false N l (match zErr N (rels l) with | some _ => 0 | none => (shutZ N (rels l)).1) (match zErr N (rels l) with | some _ => [] | none => (shutZ N (rels l)).2.1)) true :=
        Ev.step (fun k => by simp only [L2_ZoneClose.j4, Bool.false_eq_true, if_false]; rfl) (.neg h0 (zclose_j5 (by omega) hf (by rw [he])))
      have hb0 : (f == 0) = false := by simpa using h0
      exact Ev.step (fun k => by simp only [L2_ZoneClose.l0, hb0]; rfl) (.ite (fun _ => stop) (fun _ => stop))
  have start : ∀ f, (f ≠ 0 → f = eN (hasErr N (rels l) p)) → (f = 0 → zErr N (rels l) = none ∧ (p.length : Int) = N) →
      Ev (fun k => L2_ZoneClose.j2 k p (eN (zErr N (rels l))) (match zErr N (rels l) with | some _ => false | none => (shutZ N (rels l)).2.2) (zErr N (rels l)) (match hasErr N (rels l) p with | some _ => false | none => hasAll (N + 1).toNat (rels l) (0 :: p)) (hasErr N (rels l) p) f N l (match zErr N (rels l) with | some _ => 0 | none => (shutZ N (rels l)).1) (match zErr N (rels l) with | some _ => [] | none => (shutZ N (rels l)).2.1)) true :=
    fun f h1 h2 => Ev.step (fun k => by simp only [L2_ZoneClose.j2]; rfl) (loop f h1 h2 p.length 0 (by omega) (fun j hj => absurd hj (by omega)))
  refine .ite (fun h0 => ?_) (fun h0 => ?_)
  · have hE : zErr N (rels l) = none := by
      cases h : zErr N (rels l) with
      | none => rfl
      | some e => rw [h] at h0 hz; rcases hz with h | h | h <;> cases h <;> exact absurd h0 (by decide)
    by_cases hpn : (p.length : Int) = N
    · have hb : ((p.length : Int) != N) = false := by simpa using hpn
      rw [hb]
      exact Ev.step (fun k => by simp only [L2_ZoneClose.j1, Bool.false_eq_true, if_false]) (start _ (fun h => absurd h0 h) (fun _ => ⟨hE, hpn⟩))
    · have hb : ((p.length : Int) != N) = true := by simpa using hpn
      rw [hb]
      refine Ev.step (fun k => by simp only [L2_ZoneClose.j1, if_true]) (start 3 (fun _ => ?_) (fun h => absurd h (by decide)))
      unfold hasErr
      rw [hE]
      simp only
      rw [if_pos hpn]
      rfl
  · refine Ev.step (fun k => by simp only [L2_ZoneClose.j1, Bool.false_eq_true, if_false]) (start _ (fun _ => ?_) (fun h => absurd h h0))
    cases h : zErr N (rels l) with
    | none => rw [h] at h0; exact absurd rfl h0
    | some e => unfold hasErr; rw [h]
end
end Go.Proofs.Rcp
