import Derived.Test.YtcalcnfppnbooaaDoorOxOz
import Derived.Test.YtcalcnfppnbooaaDoorOxQh
import Derived.Test.YtcalcnfppnbooaaDoorOxZ25
import Derived.Test.YtcalcnfppnbooaaDoorOxZ27
/- Plain law: the law 'OctClose' as it is printed is true, whatever it is given. -/
set_option linter.unusedVariables false
set_option linter.unusedSimpArgs false
namespace Go.Proofs.Rcp
open Go.RowKit Go.Proofs.Rco Go.Proofs.Rcg Go.Proofs.Rcn Go.Proofs.YtcalcnfppnbooaaDoor.Z Go.Proofs.YtcalcnfppnbooaaDoorW.PrintWords Go.Proofs.YtcalcnfppnbooaaDoorW.PrintMore

theorem value_val {p : List Int} {n j : Nat} (hp : p.length = n) (h4 : n ≤ 4) (hj : j < 2 * n) (hb : ∀ i, -1099511627776 ≤ p.getD i 0 ∧ p.getD i 0 ≤ 1099511627776) : R2_ValueOf.f p (j : Int) = some (valO p j) := by
  have q := hb (j / 2)
  unfold R2_ValueOf.f valO
  rw [Int.tmod_eq_emod_of_nonneg (by omega), Int.tdiv_eq_ediv_of_nonneg (by omega), w64 (n := (j : Int) / 2) (by omega) (by omega), show (j : Int) / 2 = ((j / 2 : Nat) : Int) by omega]
  have e : rd p ((j / 2 : Nat) : Int) = p.getD (j / 2) 0 := rfl
  by_cases h : j % 2 = 1
  · rw [if_neg (by omega), if_pos (by omega), if_pos (by omega), e, w64 (by omega) (by omega), if_pos h]
  · rw [if_pos (by omega), if_pos (by omega), if_pos (by omega), e, if_neg h]
theorem getD_far {p : List Int} (hf : ∀ z ∈ p, -1099511627776 ≤ z ∧ z ≤ 1099511627776) (i : Nat) : -1099511627776 ≤ p.getD i 0 ∧ p.getD i 0 ≤ 1099511627776 := by
  by_cases hi : i < p.length
  · exact hf _ (by rw [List.getD_eq_getElem?_getD, List.getElem?_eq_getElem hi, Option.getD_some]; exact List.getElem_mem hi)
  · rw [List.getD_eq_getElem?_getD, List.getElem?_eq_none (by omega)]; simp
theorem valO_far {p : List Int} (hb : ∀ i, -1099511627776 ≤ p.getD i 0 ∧ p.getD i 0 ≤ 1099511627776) (i : Nat) : -1099511627776 ≤ valO p i ∧ valO p i ≤ 1099511627776 := by
  have := hb (i / 2)
  unfold valO
  split <;> omega
theorem ev_HasO {N : Int} {n : Nat} {l : List RC} {p : List Int} (hn : N = n) (h4 : n ≤ 4) (hl : (rels l).length = 2 * n * (2 * n)) (hp : (p.length : Int) = N) (hf : ∀ z ∈ p, -1099511627776 ≤ z ∧ z ≤ 1099511627776) :
    Ev (fun k => R2_HasOct.f k N l p) (hasO (2 * n) (rels l) p) := by
  have hb := getD_far hf
  have hv := valO_far hb
  have hpn : p.length = n := by omega
  unfold R2_HasOct.f
  rw [w64 (n := 2 * N) (by omega) (by omega), show 2 * N = ((2 * n : Nat) : Int) by omega, ← rces_rels l, rels_rces]
  generalize rels l = L at hl ⊢
  obtain ⟨T, hT⟩ : ∃ T, T = hasO (2 * n) L p := ⟨_, rfl⟩
  rw [← hT]
  have outer : ∀ m a : Nat, a + m = 2 * n → (∀ i, i < a → ∀ j, j < 2 * n → okPO (2 * n) L p i j = true) → Ev (fun k => R2_HasOct.l0 k p ((2 * n : Nat) : Int) (a : Int) N (rces L)) T := by
    intro m
    induction m with
    | zero =>
      intro a ha hall
      rw [hT, hasO_true fun i j hi hj => hall i (by omega) j hj]
      exact Ev.step (fun k => by simp only [R2_HasOct.l0]; rfl) (.neg (by omega) .some)
    | succ m ih =>
      intro a ha hall
      have ha' : a < 2 * n := by omega
      refine Ev.step (fun k => by simp only [R2_HasOct.l0]; rfl) (.pos (by omega) ?_)
      have inner : ∀ m b : Nat, b + m = 2 * n → (∀ j, j < b → okPO (2 * n) L p a j = true) → Ev (fun k => R2_HasOct.l1 k p ((2 * n : Nat) : Int) (a : Int) (b : Int) N (rces L)) T := by
        intro m
        induction m with
        | zero =>
          intro b hb2 hrow
          refine Ev.step (fun k => by simp only [R2_HasOct.l1, up64 (p := a) (by omega)]; rfl) (.neg (by omega) (ih (a + 1) (by omega) fun i hi j hj => ?_))
          rcases Nat.lt_or_ge i a with h | h
          · exact hall i h j hj
          · obtain rfl : i = a := by omega
            exact hrow j (by omega)
        | succ m ih2 =>
          intro b hb2 hrow
          have hb' : b < 2 * n := by omega
          have i1 := idx_lt ha' hb'
          have v1 := hv a
          have v2 := hv b
          have next : okPO (2 * n) L p a b = true → Ev (fun k => R2_HasOct.l1 k p ((2 * n : Nat) : Int) (a : Int) ((b + 1 : Nat) : Int) N (rces L)) T := fun h => ih2 (b + 1) (by omega) fun j hj => by
            rcases Nat.lt_or_ge j b with h2 | h2
            · exact hrow j h2
            · obtain rfl : j = b := by omega
              exact h
          refine Ev.step (fun k => by simp only [R2_HasOct.l1, bsome (value_val hpn h4 ha' hb), bsome (value_val hpn h4 hb' hb), ix64 (p := a) (q := b) (by omega) ha' hb', rdR_cg, up64 (p := b) (by omega)]; rfl) (.pos (by omega) (.pos (by omega) (.pos (by rw [rces_length, hl]; omega) (.ite (fun hh => .ite (fun hc => ?_) (fun hc => next ?_)) (fun hh => next ?_)))))
          · rw [w64 (by omega) (by omega)] at hc
            rw [hT, hasO_false ha' hb' (by
              unfold okPO
              rw [show (cg L (a * (2 * n) + b)).has = true from hh, decide_eq_false (by show ¬ valO p b - valO p a ≤ (cg L (a * (2 * n) + b)).most; have : valO p b - valO p a > (cg L (a * (2 * n) + b)).most := hc; omega)]
              rfl)]
            exact .some
          · rw [w64 (by omega) (by omega)] at hc
            unfold okPO
            rw [decide_eq_true (show valO p b - valO p a ≤ (cg L (a * (2 * n) + b)).most by have : ¬ valO p b - valO p a > (cg L (a * (2 * n) + b)).most := hc; omega), Bool.or_true]
          · unfold okPO
            rw [show (cg L (a * (2 * n) + b)).has = false by simpa [rce] using hh]
            rfl
      exact inner (2 * n) 0 (by omega) (fun j hj => by omega)
  exact outer (2 * n) 0 (by omega) (fun i hi => by omega)
def hasErrO (N : Int) (L : List Cel) (p : List Int) : Option Int := match oErr N L with | some e => some e | none => if (p.length : Int) ≠ N then some 3 else if p.any zfar = true then some 2 else none
theorem has_all {N : Int} {L : List Cel} {p : List Int} : octagon_Has.f N (oces L) p = some (match hasErrO N L p with | some _ => false | none => hasO (2 * N).toNat L p, hasErrO N L p) := by
  unfold octagon_Has.f hasErrO
  rw [ocels_oces]
  cases h : oErr N L with
  | some e => rfl
  | none =>
    simp only
    by_cases h1 : (p.length : Int) ≠ N
    · rw [if_pos h1, if_pos h1]
    · rw [if_neg h1, if_neg h1]
      by_cases h2 : p.any zfar = true
      · rw [if_pos h2, if_pos h2]
      · rw [if_neg h2, if_neg h2]
theorem few_hasErrO (N : Int) (L : List Cel) (p : List Int) : fewO (hasErrO N L p) := by
  unfold hasErrO
  have := few_oErr N L
  cases h : oErr N L with
  | some e => rw [h] at this; exact this
  | none =>
    simp only
    repeat' split
    all_goals first | exact .inl rfl | exact .inr (.inl rfl) | exact .inr (.inr (.inl rfl))

section
variable {N : Int} {l : List RC} {p : List Int}
theorem oclose_j6 (hl : l.length ≤ 100) : Ev (fun k => L2_OctClose.j6 k (eN (oErr N (rels l))) (match oErr N (rels l) with | some _ => false | none => (shutO N (rels l)).2.2) (oErr N (rels l)) false N l (match oErr N (rels l) with | some _ => 0 | none => (shutO N (rels l)).1) (match oErr N (rels l) with | some _ => [] | none => (shutO N (rels l)).2.1)) true := by
  refine Ev.step (fun k => by simp only [L2_OctClose.j6, Bool.false_eq_true, if_false]; rfl) ?_
  have hf := few_oErr N (rels l)
  cases hE : oErr N (rels l) with
  | some e =>
    rw [hE] at hf
    have he : e > 0 := by rcases hf with h | h | h | h <;> cases h <;> decide
    simp only
    refine .pos (show eN (some e) > 0 from he) ?_
    rw [coded_fewO hf]
    refine .bind .some (.pos (by simp) (.neg (by decide) ?_))
    exact .of fun k => rfl
  | none =>
    obtain ⟨n, hn, h4, R, en⟩ := nat_of hE
    simp only
    refine .neg (by decide) (.bind (ev_near l) ?_)
    cases hb : nearB (rels l) with
    | false => exact .neg (by decide) (.pos rfl .some)
    | true =>
      obtain ⟨_, hnear⟩ := nearB_near hb
      have hC := ev_ClosedOct hn h4 R (b := 1048576) (by decide) (by decide) hnear
      refine .pos rfl (.bind hC (.pos rfl ?_))
      unfold shutO
      rw [en]
      cases hz : closeO (2 * n) (rels l) with
      | none =>
        refine .pos (by rfl) ?_
        have := ev_isOct (N := 0) (M := 0) (l := []) (m := []) (by decide)
        exact .bind this .some
      | some C =>
        refine .pos (by rfl) ?_
        have hCl := (closeO_some h4 R hz).1.len
        have := ev_isOct (N := N) (M := N) (l := oces C) (m := rces C) (by rw [oces_length, hCl]; exact Nat.le_trans (Nat.mul_le_mul (show 2 * n ≤ 8 by omega) (show 2 * n ≤ 8 by omega)) (by decide))
        rw [decide_eq_true (by rw [ocels_oces, rels_rces]; exact ⟨rfl, rfl⟩)] at this
        exact .bind this .some
theorem oclose_j5 (hl : l.length ≤ 100) {f : Int} {b : Bool} (hf : f = eN (hasErrO N (rels l) p)) (hb : b = (match hasErrO N (rels l) p with | some _ => false | none => hasO (2 * N).toNat (rels l) p)) :
    Ev (fun k => L2_OctClose.j5 k (eN (oErr N (rels l))) (match oErr N (rels l) with | some _ => false | none => (shutO N (rels l)).2.2) (oErr N (rels l)) (match hasErrO N (rels l) p with | some _ => false | none => hasO (2 * N).toNat (rels l) p) (hasErrO N (rels l) p) f b N l (match oErr N (rels l) with | some _ => 0 | none => (shutO N (rels l)).1) (match oErr N (rels l) with | some _ => [] | none => (shutO N (rels l)).2.1)) true := by
  refine Ev.step (fun k => by simp only [L2_OctClose.j5]; rfl) ?_
  rw [coded_fewO (few_hasErrO _ _ _), hf, hb]
  refine .bind .some (.pos (by simp) ?_)
  rw [bne_self_eq_false]
  exact oclose_j6 hl
theorem pure_OctClose (N : Int) (l : List RC) (p : List Int) : Ev (fun k => L2_OctClose.f k N l p) true := by
  have skip : Ev (fun k => L2_OctClose.j0 k p true true N l) true := Ev.step (h := fun _ => some true) (fun k => by simp only [L2_OctClose.j0, if_true]) .some
  unfold L2_OctClose.f
  refine .bind ev_odd (.pos rfl (.ite (fun _ => skip) (fun hl => ?_)))
  by_cases hp : (p.length : Int) > 100
  · rw [decide_eq_true hp]; exact skip
  rw [decide_eq_false hp]
  have Z := ev_octOf (N := N) (l := l) (by omega)
  refine Ev.step (fun k => by simp only [L2_OctClose.j0, Bool.false_eq_true, if_false]; rfl) (.bind (ev_OctError (by omega)) (.bind Z ?_))
  have hclose : octagon_Close.f N (oces (rels l)) = some (match oErr N (rels l) with | some _ => 0 | none => (shutO N (rels l)).1, match oErr N (rels l) with | some _ => [] | none => (shutO N (rels l)).2.1, match oErr N (rels l) with | some _ => false | none => (shutO N (rels l)).2.2, oErr N (rels l)) := by
    cases h : oErr N (rels l) with
    | some e => rw [oclose_err h]
    | none => rw [oclose_ok h]
  simp only [hclose]
  refine .bind .some (.bind Z ?_)
  rw [ints_val (by omega)]
  refine .bind .some ?_
  simp only [has_all]
  refine .bind .some (.bind Z ?_)
  have hval : octagon_Valid.f N (oces (rels l)) = some (oErr N (rels l)) := by unfold octagon_Valid.f; rw [ocels_oces]
  simp only [hval]
  refine .bind .some ?_
  rw [coded_fewO (few_oErr _ _)]
  refine .bind .some (.pos (by simp) ?_)
  -- the errors of the point
  have hz := few_oErr N (rels l)
  have loop : ∀ f, (f ≠ 0 → f = eN (hasErrO N (rels l) p)) → (f = 0 → oErr N (rels l) = none ∧ (p.length : Int) = N) → ∀ m i : Nat, i + m = p.length → (∀ j, j < i → zfar (p.getD j 0) = false) →
      Ev (fun k => L2_OctClose.l0 k p (eN (oErr N (rels l))) (match oErr N (rels l) with | some _ => false | none => (shutO N (rels l)).2.2) (oErr N (rels l)) (match hasErrO N (rels l) p with | some _ => false | none => hasO (2 * N).toNat (rels l) p) (hasErrO N (rels l) p) f (i : Int) N l (match oErr N (rels l) with | some _ => 0 | none => (shutO N (rels l)).1) (match oErr N (rels l) with | some _ => [] | none => (shutO N (rels l)).2.1)) true := by
    intro f hf1 hf0 m i hi hall
    by_cases h0 : f = 0
    · subst h0
      obtain ⟨hE, hpn⟩ := hf0 rfl
      obtain ⟨n, hn, h4, R, en⟩ := nat_of hE
      induction m generalizing i with
      | zero =>
        have hany : p.any zfar = false := by
          rw [Bool.eq_false_iff]
          intro q
          obtain ⟨k, hk, hk'⟩ := (any_iff zfar p).1 q
          rw [hall k (by omega)] at hk'
          cases hk'
        have hh : hasErrO N (rels l) p = none := by unfold hasErrO; rw [hE]; simp only; rw [if_neg (by omega), hany]; rfl
        have hfar : ∀ z ∈ p, -1099511627776 ≤ z ∧ z ≤ 1099511627776 := by
          intro z hz'
          have : zfar z = false := by
            rw [Bool.eq_false_iff]; intro q
            exact Bool.eq_false_iff.1 hany (List.any_eq_true.2 ⟨z, hz', q⟩)
          have := of_decide_eq_false this
          omega
        refine Ev.step (fun k => by simp only [L2_OctClose.l0]; rfl) (.neg (by omega) ?_)
        refine Ev.step (fun k => by simp only [L2_OctClose.j4, Bool.false_eq_true, if_false]; rfl) (.pos (show (0 : Int) = 0 from rfl) (.bind (ev_HasO hn h4 R.len hpn hfar) ?_))
        exact oclose_j5 (by omega) (by rw [hh]; rfl) (by rw [hh, en])
      | succ m ih =>
        refine Ev.step (fun k => by simp only [L2_OctClose.l0]; rfl) (.pos (by omega) ?_)
        refine Ev.step (fun k => by simp only [L2_OctClose.j4, up64 (p := i) (by omega), far_max]; rfl) (.pos (show ((0 : Int) == 0) = true from rfl) (.pos (by omega) (.pos (by omega) (.bind .some ?_))))
        have e : rd p (i : Int) = p.getD i 0 := rfl
        rw [e]
        refine .ite (fun hz' => ?_) (fun hz' => ?_)
        · have hany : p.any zfar = true := (any_iff zfar p).2 ⟨i, by omega, hz'⟩
          have hh : hasErrO N (rels l) p = some 2 := by unfold hasErrO; rw [hE]; simp only; rw [if_neg (by omega), if_pos hany]
          have stop : Ev (fun k => L2_OctClose.j4 k p (eN (oErr N (rels l))) (match oErr N (rels l) with | some _ => false | none => (shutO N (rels l)).2.2) (oErr N (rels l)) (match hasErrO N (rels l) p with | some _ => false | none => hasO (2 * N).toNat (rels l) p) (hasErrO N (rels l) p) 2 ((i + 1 : Nat) : Int) false N l (match oErr N (rels l) with | some _ => 0 | none => (shutO N (rels l)).1) (match oErr N (rels l) with | some _ => [] | none => (shutO N (rels l)).2.1)) true :=
            Ev.step (fun k => by simp only [L2_OctClose.j4, Bool.false_eq_true, if_false]; rfl) (.neg (by decide) (oclose_j5 (by omega) (by rw [hh]; rfl) (by rw [hh])))
          exact Ev.step (fun k => by simp only [L2_OctClose.l0]; rfl) (.ite (fun _ => stop) (fun _ => stop))
        · refine ih (i + 1) (by omega) fun j hj => ?_
          rcases Nat.lt_or_ge j i with h | h
          · exact hall j h
          · obtain rfl : j = i := by omega
            simpa using hz'
    · have hf := hf1 h0
      have hne : ∃ e, hasErrO N (rels l) p = some e := by
        cases h : hasErrO N (rels l) p with
        | some e => exact ⟨e, rfl⟩
        | none => rw [h] at hf; exact absurd hf h0
      obtain ⟨e, he⟩ := hne
      have stop : Ev (fun k => L2_OctClose.j4 k p (eN (oErr N (rels l))) (match oErr N (rels l) with | some _ => false | none => (shutO N (rels l)).2.2) (oErr N (rels l)) (match hasErrO N (rels l) p with | some _ => false | none => hasO (2 * N).toNat (rels l) p) (hasErrO N (rels l) p) f (i : Int) false N l (match oErr N (rels l) with | some _ => 0 | none => (shutO N (rels l)).1) (match oErr N (rels l) with | some _ => [] | none => (shutO N (rels l)).2.1)) true :=
        Ev.step (fun k => by simp only [L2_OctClose.j4, Bool.false_eq_true, if_false]; rfl) (.neg h0 (oclose_j5 (by omega) hf (by rw [he])))
      have hb0 : (f == 0) = false := by simpa using h0
      exact Ev.step (fun k => by simp only [L2_OctClose.l0, hb0]; rfl) (.ite (fun _ => stop) (fun _ => stop))
  have start : ∀ f, (f ≠ 0 → f = eN (hasErrO N (rels l) p)) → (f = 0 → oErr N (rels l) = none ∧ (p.length : Int) = N) →
      Ev (fun k => L2_OctClose.j2 k p (eN (oErr N (rels l))) (match oErr N (rels l) with | some _ => false | none => (shutO N (rels l)).2.2) (oErr N (rels l)) (match hasErrO N (rels l) p with | some _ => false | none => hasO (2 * N).toNat (rels l) p) (hasErrO N (rels l) p) f N l (match oErr N (rels l) with | some _ => 0 | none => (shutO N (rels l)).1) (match oErr N (rels l) with | some _ => [] | none => (shutO N (rels l)).2.1)) true :=
    fun f h1 h2 => Ev.step (fun k => by simp only [L2_OctClose.j2]; rfl) (loop f h1 h2 p.length 0 (by omega) (fun j hj => absurd hj (by omega)))
  refine .ite (fun h0 => ?_) (fun h0 => ?_)
  · have hE : oErr N (rels l) = none := by
      cases h : oErr N (rels l) with
      | none => rfl
      | some e => rw [h] at h0 hz; rcases hz with h | h | h | h <;> cases h <;> exact absurd h0 (by decide)
    by_cases hpn : (p.length : Int) = N
    · have hb : ((p.length : Int) != N) = false := by simpa using hpn
      rw [hb]
      exact Ev.step (fun k => by simp only [L2_OctClose.j1, Bool.false_eq_true, if_false]) (start _ (fun h => absurd h0 h) (fun _ => ⟨hE, hpn⟩))
    · have hb : ((p.length : Int) != N) = true := by simpa using hpn
      rw [hb]
      refine Ev.step (fun k => by simp only [L2_OctClose.j1, if_true]) (start 3 (fun _ => ?_) (fun h => absurd h (by decide)))
      unfold hasErrO
      rw [hE]
      simp only
      rw [if_pos hpn]
      rfl
  · refine Ev.step (fun k => by simp only [L2_OctClose.j1, Bool.false_eq_true, if_false]) (start _ (fun _ => ?_) (fun h => absurd h h0))
    cases h : oErr N (rels l) with
    | none => rw [h] at h0; exact absurd rfl h0
    | some e => unfold hasErrO; rw [h]
end
end Go.Proofs.Rcp
