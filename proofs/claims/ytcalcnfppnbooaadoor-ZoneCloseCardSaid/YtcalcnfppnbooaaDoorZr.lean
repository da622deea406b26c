/- Plain law: the reference's functions of zones, as they are printed: what they come to. -/
import Derived.Test.YtcalcnfppnbooaaDoorPz
import Derived.Test.YtcalcnfppnbooaaDoorZpt
import Derived.Test.YtcalcnfppnbooaaDoorRefZ
import Derived.Test.YtcalcnfppnbooaaDoorZh
import Derived.Test.YtcalcnfppnbooaaDoorCd
import Derived.Test.YtcalcnfppnbooaaDoorZ7
import Derived.Test.YtcalcnfppnbooaaDoorZ5
import Derived.Test.YtcalcnfppnbooaaDoorZ4
import Derived.Test.YtcalcnfppnbooaaDoorZ5
import Derived.Test.YtcalcnfppnbooaaDoorZ5
set_option linter.unusedVariables false
set_option linter.unusedSimpArgs false
namespace Go.Proofs.Rcp
open Go.RowKit Go.Proofs.Rcg Go.Proofs.Rcn Go.Proofs.YtcalcnfppnbooaaDoor.Z Go.Proofs.YtcalcnfppnbooaaDoorW.PrintWords Go.Proofs.YtcalcnfppnbooaaDoorW.PrintMore

theorem ints_val {l : List Int} (h : l.length ≤ 1000) : L2_ints.f l = some l := by
  unfold L2_ints.f
  simp
  omega
theorem rdR_cg {L : List Cel} (i : Nat) : rd_T67 (rces L) (i : Int) = rce (cg L i) := by
  by_cases h : i < L.length
  · rw [rdR_get (by rw [rces_length]; exact h)]
    simp [rces, cg, List.getD_eq_getElem?_getD, List.getElem?_eq_getElem h]
  · simp only [rd_T67, List.getD_eq_getElem?_getD, Int.toNat_natCast, cg]
    rw [List.getElem?_eq_none (by rw [rces_length]; omega), List.getElem?_eq_none (by omega)]
    rfl
theorem rces_set (L : List Cel) (k : Nat) (c : Cel) : (rces L).set k (rce c) = rces (L.set k c) := by simp [rces, List.map_set]
/-- An error's number, or 0. -/
abbrev eN (o : Option Int) : Int := o.getD 0
theorem far_max (a : Int) : R2_Far.f a 1099511627776 = some (zfar a) := far_n (by omega) a
/-- The error of rows of bounds. -/
def cErr (N : Int) (L : List Cel) (want : Int) : Option Int :=
  if N < 0 ∨ N > 4 then some 2 else if (L.length : Int) ≠ want then some 3 else if L.any bad = true then some 3 else if (L.any fun c => zfar c.most) = true then some 2 else none
theorem ev_cells {N want : Int} {l : List RC} (hl : l.length ≤ 1000) : Ev (fun k => R2_cellsError.f k N l want) (eN (cErr N (rels l) want)) := by
  have key : ∀ (n i : Nat) (g : Bool), i + n = l.length → Ev (fun k => R2_cellsError.l0 k l g (i : Int)) (if (rels (l.drop i)).any bad = true then 3 else if (g || (rels (l.drop i)).any fun c => zfar c.most) = true then 2 else 0) := by
    intro n
    induction n with
    | zero =>
      intro i g hin
      rw [List.drop_eq_nil_of_le (by omega)]
      refine Ev.step (h := fun _ => some (if g = true then 2 else 0)) (fun k => ?_) (by cases g <;> exact .some)
      simp only [R2_cellsError.l0]
      rw [if_neg (by omega)]
      cases g <;> rfl
    | succ n ih =>
      intro i g hin
      have hlt : i < l.length := by omega
      have nx := ih (i + 1)
      rw [List.drop_eq_getElem_cons hlt]
      refine Ev.step (fun k => by simp only [R2_cellsError.l0, rdR_get hlt, up64 (p := i) (by omega), far_max]; rfl) (.pos (by omega) (.pos (by omega) ?_))
      simp only [rels, List.map_cons, List.any_cons] at nx ⊢
      generalize l[i] = x at nx ⊢
      obtain ⟨xh, xm⟩ := x
      show Ev (fun k => if xh = true then (some (zfar xm)).bind fun t => if g = true then R2_cellsError.l0 k l true ((i + 1 : Nat) : Int) else R2_cellsError.l0 k l t ((i + 1 : Nat) : Int) else if xm = 0 then (some (zfar xm)).bind fun t => if g = true then R2_cellsError.l0 k l true ((i + 1 : Nat) : Int) else R2_cellsError.l0 k l t ((i + 1 : Nat) : Int) else some 3) _
      have both : ∀ B : Bool, B = (bad ⟨xh, xm⟩) → B = false → Ev (fun k => (some (zfar xm)).bind fun t => if g = true then R2_cellsError.l0 k l true ((i + 1 : Nat) : Int) else R2_cellsError.l0 k l t ((i + 1 : Nat) : Int))
          (if (bad (rel ⟨xh, xm⟩) || (List.map rel (List.drop (i + 1) l)).any bad) = true then 3 else if (g || (zfar (rel ⟨xh, xm⟩).most || (List.map rel (List.drop (i + 1) l)).any fun c => zfar c.most)) = true then 2 else 0) := by
        intro B e hB
        rw [show bad (rel ⟨xh, xm⟩) = false by show bad ⟨xh, xm⟩ = false; rw [← e, hB], Bool.false_or, show zfar (rel ⟨xh, xm⟩).most = zfar xm from rfl]
        refine .bind .some (.ite (fun hg => ?_) (fun hg => ?_))
        · have := nx true (by omega)
          subst hg
          exact this
        · have := nx (zfar xm) (by omega)
          have hg' : g = false := by simpa using hg
          subst hg'
          rw [Bool.false_or]
          exact this
      refine .ite (fun hx => ?_) (fun hx => .ite (fun h0 => ?_) (fun h0 => ?_))
      · subst hx; exact both false rfl rfl
      · have hx' : xh = false := by simpa using hx
        subst hx' h0
        exact both false rfl rfl
      · have hx' : xh = false := by simpa using hx
        subst hx'
        rw [show bad (rel ⟨false, xm⟩) = true by show bad ⟨false, xm⟩ = true; simp [bad, h0], Bool.true_or, if_pos rfl]
        exact .some
  unfold R2_cellsError.f cErr
  refine .ite (fun h => ?_) (fun h => ?_)
  · rw [if_pos (.inl h)]
    exact Ev.step (h := fun _ => some 2) (fun k => by simp only [R2_cellsError.j0, if_true]) .some
  · by_cases h4 : N > 4
    · rw [decide_eq_true h4, if_pos (.inr h4)]
      exact Ev.step (h := fun _ => some 2) (fun k => by simp only [R2_cellsError.j0, if_true]) .some
    · rw [decide_eq_false h4, if_neg (by omega)]
      refine Ev.step (fun k => by simp only [R2_cellsError.j0, Bool.false_eq_true, if_false]; rfl) (.ite (fun hw => ?_) (fun hw => ?_))
      · rw [if_neg (by rw [rels_length]; exact fun q => q hw)]
        have := key l.length 0 false (by omega)
        simp only [List.drop_zero, Bool.false_or] at this
        have e : eN (if (rels l).any bad = true then some 3 else if ((rels l).any fun c => zfar c.most) = true then some 2 else none) = if (rels l).any bad = true then 3 else if ((rels l).any fun c => zfar c.most) = true then 2 else 0 := by
          split
          · rfl
          · split <;> rfl
        rw [e]
        exact this
      · rw [if_pos (by rw [rels_length]; exact hw)]
        exact .some
theorem zErr_cErr (N : Int) (L : List Cel) : zErr N L = cErr N L ((N + 1) * (N + 1)) := rfl
theorem cErr_out {N : Int} {L : List Cel} (h : N < 0 ∨ N > 4) (a b : Int) : cErr N L a = cErr N L b := by unfold cErr; rw [if_pos h, if_pos h]
theorem ev_ZoneError {N : Int} {l : List RC} (hl : l.length ≤ 1000) : Ev (fun k => R2_ZoneError.f k N l) (eN (zErr N (rels l))) := by
  unfold R2_ZoneError.f
  refine .bind (x := eN (zErr N (rels l))) ?_ .some
  rw [zErr_cErr]
  by_cases h : N < 0 ∨ N > 4
  · rw [cErr_out h _ (wrap64 ((wrap64 (N + 1)) * (wrap64 (N + 1))))]
    exact ev_cells hl
  · obtain ⟨n, hn⟩ : ∃ n : Nat, N + 1 = n := ⟨(N + 1).toNat, by omega⟩
    have e := sq64 hn (by omega)
    have e2 : (N + 1) * (N + 1) = wrap64 ((wrap64 (N + 1)) * (wrap64 (N + 1))) := by rw [e, hn]; push_cast; rfl
    rw [e2]
    exact ev_cells hl
theorem lower_val {L : List Cel} {i : Nat} (hi : i < L.length) (m : Int) : ∃ b, R2_lower.f (rces L) (i : Int) m = some (b, rces (leastL L i true m)) := by
  unfold R2_lower.f
  rw [if_pos (by omega), if_pos (by rw [rces_length]; omega), rdR_cg]
  unfold leastL leastC
  have hs := set_self L i
  generalize cg L i = c at hs ⊢
  obtain ⟨h, x⟩ := c
  cases h
  · exact ⟨true, by simp [rce, rces, List.map_set]⟩
  · by_cases hm : x ≤ m
    · refine ⟨false, ?_⟩
      rw [if_pos (show (rce ⟨true, x⟩).f0 = true from rfl), if_pos (show (rce ⟨true, x⟩).f1 ≤ m from hm), if_neg (by simp; omega), hs]
    · refine ⟨true, ?_⟩
      rw [if_pos (show (rce ⟨true, x⟩).f0 = true from rfl), if_neg (show ¬ (rce ⟨true, x⟩).f1 ≤ m from hm), if_pos (by simp; omega)]
      simp [rce, rces, List.map_set]
theorem ev_clip (L : List Cel) (hl : L.length ≤ 1000) : Ev (fun k => R2_clip.f k (rces L)) (rces (L.map clipC)) := by
  have key : ∀ (n i : Nat), i + n = L.length → Ev (fun k => R2_clip.l0 k (rces (rep clipAt i L)) (i : Int)) (rces (L.map clipC)) := by
    intro n
    induction n with
    | zero =>
      intro i hin
      obtain rfl : i = L.length := by omega
      rw [rep_clip_all]
      refine Ev.step (h := fun _ => some (rces (L.map clipC))) (fun k => ?_) .some
      simp only [R2_clip.l0]
      rw [if_neg (by rw [rces_length, List.length_map]; omega)]
    | succ n ih =>
      intro i hin
      have hlt : i < L.length := by omega
      have hll : (rep clipAt i L).length = L.length := rep_length clipAt_length i L
      have nx := ih (i + 1) (by omega)
      have hc := rep_clip_at L hlt
      rw [show rep clipAt (i + 1) L = clipAt (rep clipAt i L) i from rfl, clipAt] at nx
      generalize rep clipAt i L = X at nx hll hc ⊢
      have hs := set_self X i
      generalize hcc : cg X i = c at nx hs ⊢
      obtain ⟨h, m⟩ := c
      refine Ev.step (fun k => by simp only [R2_clip.l0, rdR_cg, hcc, up64 (p := i) (by omega), Int.toNat_natCast]; rfl) (.pos (by rw [rces_length]; omega) (.pos (by omega) ?_))
      unfold clipC at nx
      refine .ite (fun h1 => ?_) (fun h1 => .ite (fun h2 => ?_) (fun h2 => ?_))
      · rw [if_pos (show m > 1099511627776 from h1)] at nx
        refine .bind .some ?_
        have e : (rces X).set i (⟨false, 0⟩ : RC) = rces (X.set i ⟨false, 0⟩) := rces_set X i ⟨false, 0⟩
        rw [e]
        have e2 : rd_T67 (rces (X.set i ⟨false, 0⟩)) (i : Int) = ⟨false, 0⟩ := by
          rw [rdR_cg, cg_set, if_pos ⟨rfl, by omega⟩]; rfl
        simp only [e2]
        exact .neg (by decide) nx
      · rw [if_neg (show ¬ m > 1099511627776 from h1), if_pos (show m < -1099511627776 from h2)] at nx
        have e : (rces X).set i (⟨h, -1099511627776⟩ : RC) = rces (X.set i ⟨h, -1099511627776⟩) := rces_set X i ⟨h, -1099511627776⟩
        show Ev (fun k => R2_clip.l0 k ((rces X).set i (⟨h, -1099511627776⟩ : RC)) ((i + 1 : Nat) : Int)) _
        rw [e]
        exact nx
      · rw [if_neg (show ¬ m > 1099511627776 from h1), if_neg (show ¬ m < -1099511627776 from h2), hs] at nx
        exact nx
  exact key L.length 0 (by omega)
section
variable {N : Int} {n : Nat} {r : Int × List RC × Bool}
theorem rep_len_closeJ {n i j : Nat} {X : List Cel} (q : Nat) : (rep (fun M k => closeJ n k i M j) q X).length = X.length := rep_length (f := fun M k => closeJ n k i M j) (fun L k => leastL_length ..) q X
theorem swJ_length (n i X j) : (swJ n i X j).length = X.length := rep_len_closeJ n
theorem swI_length (n X i) : (swI n X i).length = X.length := rep_length (swJ_length n i) n X
theorem sweep_length (n X) : (sweep n X).length = X.length := rep_length (swI_length n) n X
theorem closed_l4 (h5 : n ≤ 16) {t i j : Nat} (hi : i < n) (hj : j < n) {X : List Cel} (hX : X.length = n * n) (hnext : Ev (fun k => R2_ClosedZone.l3 k (n : Int) (t : Int) (i : Int) ((j + 1 : Nat) : Int) N (rces (swJ n i X j))) r) :
    ∀ m q : Nat, q + m = n → Ev (fun k => R2_ClosedZone.l4 k (n : Int) (t : Int) (i : Int) (j : Int) (q : Int) N (rces (rep (fun M k => closeJ n k i M j) q X))) r := by
  intro m
  induction m with
  | zero =>
    intro q hq
    obtain rfl : q = n := by omega
    exact Ev.step (fun k => by simp only [R2_ClosedZone.l4, up64 (p := j) (by omega)]; rfl) (.neg (by omega) hnext)
  | succ m ih =>
    intro q hq
    have hq' : q < n := by omega
    have i1 := idx_lt hi hq'
    have i2 := idx_lt hq' hj
    have i3 := idx_lt hi hj
    have nx := ih (q + 1) (by omega)
    rw [rep_succ] at nx
    have hM : (rep (fun M k => closeJ n k i M j) q X).length = n * n := by rw [rep_len_closeJ]; exact hX
    generalize rep (fun M k => closeJ n k i M j) q X = M at nx hM ⊢
    have stay : ((cg M (i * n + q)).has && (cg M (q * n + j)).has) = false → Ev (fun k => R2_ClosedZone.l4 k (n : Int) (t : Int) (i : Int) (j : Int) ((q + 1 : Nat) : Int) N (rces M)) r := by
      intro e
      rwa [show closeJ n q i M j = M by unfold closeJ; rw [e]; exact leastL_no' (fun q => by cases q)] at nx
    refine Ev.step (fun k => by simp only [R2_ClosedZone.l4, ix64 (p := i) (q := q) h5 hi hq', ix64 (p := q) (q := j) h5 hq' hj, ix64 (p := i) (q := j) h5 hi hj, rdR_cg, up64 (p := q) (by omega)]; rfl)
      (.pos (by omega) (.pos (by omega) (.pos (by rw [rces_length, hM]; omega) (.pos (by omega) (.pos (by rw [rces_length, hM]; omega) (.ite (fun ha => .ite (fun hb => ?_) (fun hb => ?_)) (fun ha => ?_)))))))
    · obtain ⟨b, e⟩ := lower_val (L := M) (i := i * n + j) (by rw [hM]; exact i3) (wrap64 ((cg M (i * n + q)).most + (cg M (q * n + j)).most))
      have e' : R2_lower.f (rces M) ((i * n + j : Nat) : Int) (wrap64 ((rce (cg M (i * n + q))).f1 + (rce (cg M (q * n + j))).f1)) = some (b, rces (closeJ n q i M j)) := by
        rw [show closeJ n q i M j = leastL M (i * n + j) true (wrap64 ((cg M (i * n + q)).most + (cg M (q * n + j)).most)) by
          unfold closeJ; rw [show (cg M (i * n + q)).has = true from ha, show (cg M (q * n + j)).has = true from hb]; rfl]
        exact e
      rw [e']
      exact .bind .some nx
    · exact stay (by rw [show (cg M (q * n + j)).has = false by simpa [rce] using hb, Bool.and_false])
    · exact stay (by rw [show (cg M (i * n + q)).has = false by simpa [rce] using ha, Bool.false_and])
theorem closed_l3 (h5 : n ≤ 16) {t i : Nat} (hi : i < n) {X : List Cel} (hX : X.length = n * n) (hnext : Ev (fun k => R2_ClosedZone.l2 k (n : Int) (t : Int) ((i + 1 : Nat) : Int) N (rces (swI n X i))) r) :
    ∀ m q : Nat, q + m = n → Ev (fun k => R2_ClosedZone.l3 k (n : Int) (t : Int) (i : Int) (q : Int) N (rces (rep (swJ n i) q X))) r := by
  intro m
  induction m with
  | zero =>
    intro q hq
    obtain rfl : q = n := by omega
    exact Ev.step (fun k => by simp only [R2_ClosedZone.l3, up64 (p := i) (by omega)]; rfl) (.neg (by omega) hnext)
  | succ m ih =>
    intro q hq
    have nx := ih (q + 1) (by omega)
    rw [rep_succ] at nx
    have hM : (rep (swJ n i) q X).length = n * n := by rw [rep_length (swJ_length n i)]; exact hX
    exact Ev.step (fun k => by simp only [R2_ClosedZone.l3]; rfl) (.pos (by omega) (closed_l4 h5 hi (by omega) hM nx n 0 (by omega)))
theorem closed_l2 (h5 : n ≤ 16) {t : Nat} (ht : t ≤ 100) {X : List Cel} (hX : X.length = n * n) (hnext : Ev (fun k => R2_ClosedZone.l1 k (n : Int) ((t + 1 : Nat) : Int) N (rces (sweep n X))) r) :
    ∀ m q : Nat, q + m = n → Ev (fun k => R2_ClosedZone.l2 k (n : Int) (t : Int) (q : Int) N (rces (rep (swI n) q X))) r := by
  intro m
  induction m with
  | zero =>
    intro q hq
    obtain rfl : q = n := by omega
    exact Ev.step (fun k => by simp only [R2_ClosedZone.l2, up64 (p := t) (by omega)]; rfl) (.neg (by omega) hnext)
  | succ m ih =>
    intro q hq
    have nx := ih (q + 1) (by omega)
    rw [rep_succ] at nx
    have hM : (rep (swI n) q X).length = n * n := by rw [rep_length (swI_length n)]; exact hX
    exact Ev.step (fun k => by simp only [R2_ClosedZone.l2]; rfl) (.pos (by omega) (closed_l3 h5 (by omega) hM nx n 0 (by omega)))
theorem closed_l1 (h5 : n ≤ 16) {X : List Cel} (hX : X.length = n * n) (hnext : Ev (fun k => R2_ClosedZone.l5 k (n : Int) 0 N (rces (sweeps n (n + 1) X))) r) :
    ∀ m q : Nat, q + m = n + 1 → Ev (fun k => R2_ClosedZone.l1 k (n : Int) (q : Int) N (rces (sweeps n q X))) r := by
  intro m
  induction m with
  | zero =>
    intro q hq
    obtain rfl : q = n + 1 := by omega
    exact Ev.step (fun k => by simp only [R2_ClosedZone.l1]; rfl) (.neg (by omega) hnext)
  | succ m ih =>
    intro q hq
    have nx := ih (q + 1) (by omega)
    have hM : (sweeps n q X).length = n * n := by
      have : (rep (fun M _ => sweep n M) q X).length = X.length := rep_length (f := fun M _ => sweep n M) (fun L _ => sweep_length n L) q X
      rw [sweeps, this]; exact hX
    exact Ev.step (fun k => by simp only [R2_ClosedZone.l1]; rfl) (.pos (by omega) (closed_l2 h5 (by omega) hM nx n 0 (by omega)))
theorem closed_l0 (h5 : n ≤ 16) {X : List Cel} (hX : X.length = n * n) (hnext : Ev (fun k => R2_ClosedZone.l1 k (n : Int) 0 N (rces (diag n X))) r) :
    ∀ m q : Nat, q + m = n → Ev (fun k => R2_ClosedZone.l0 k (n : Int) (q : Int) N (rces (rep (closeD n) q X))) r := by
  intro m
  induction m with
  | zero =>
    intro q hq
    obtain rfl : q = n := by omega
    exact Ev.step (fun k => by simp only [R2_ClosedZone.l0]; rfl) (.neg (by omega) hnext)
  | succ m ih =>
    intro q hq
    have hq' : q < n := by omega
    have nx := ih (q + 1) (by omega)
    rw [rep_succ, closeD] at nx
    have hM : (rep (closeD n) q X).length = n * n := by rw [rep_length (closeD_length n)]; exact hX
    generalize rep (closeD n) q X = M at nx hM ⊢
    obtain ⟨b, e⟩ := lower_val (L := M) (i := q * n + q) (by rw [hM]; exact idx_lt hq' hq') 0
    refine Ev.step (fun k => by simp only [R2_ClosedZone.l0, ix64 (p := q) (q := q) h5 hq' hq', up64 (p := q) (by omega), e]; rfl) (.pos (by omega) (.bind .some nx))
end
/-- What the reference's closing comes to, as it is printed. -/
def shutR (N : Int) (C : Option (List Cel)) : Int × List RC × Bool := match C with | none => (0, [], false) | some C => (N, rces C, true)
theorem ev_Closed {N : Int} {n : Nat} {l : List RC} (hn : N + 1 = n) (h5 : n ≤ 16) (hl : (rels l).length = n * n) : Ev (fun k => R2_ClosedZone.f k N l) (shutR N (refClose n (rels l))) := by
  have hle : n * n ≤ 16 * 16 := Nat.mul_le_mul h5 h5
  have hl' : l.length = n * n := by rw [← rels_length]; exact hl
  unfold R2_ClosedZone.f
  refine .pos (by simp; omega) ?_
  rw [List.nil_append, w64 (n := N + 1) (by omega) (by omega), hn, ← rces_rels l]
  rw [rces_rels l]
  have hS : (sweeps n (n + 1) (diag n (rels l))).length = n * n := by
    have : (rep (fun M _ => sweep n M) (n + 1) (diag n (rels l))).length = (diag n (rels l)).length := rep_length (f := fun M _ => sweep n M) (fun L _ => sweep_length n L) (n + 1) (diag n (rels l))
    rw [sweeps, this, diag_length]; exact hl
  have fin : Ev (fun k => R2_ClosedZone.l5 k (n : Int) 0 N (rces (sweeps n (n + 1) (diag n (rels l))))) (shutR N (refClose n (rels l))) := by
    unfold refClose
    generalize sweeps n (n + 1) (diag n (rels l)) = S at hS ⊢
    have key : ∀ m q : Nat, q + m = n → (∀ j, j < q → okAt n S j = true) → Ev (fun k => R2_ClosedZone.l5 k (n : Int) (q : Int) N (rces S)) (shutR N (if okL n S = true then some (S.map clipC) else none)) := by
      intro m
      induction m with
      | zero =>
        intro q hq hall
        obtain rfl : q = n := by omega
        rw [if_pos (show okL q S = true from List.all_eq_true.2 fun j hj => hall j (List.mem_range.1 hj))]
        refine Ev.step (fun k => by simp only [R2_ClosedZone.l5]; rfl) (.neg (by omega) (.bind (ev_clip S (by omega)) .some))
      | succ m ih =>
        intro q hq hall
        have hq' : q < n := by omega
        refine Ev.step (fun k => by simp only [R2_ClosedZone.l5, ix64 (p := q) (q := q) h5 hq' hq', rdR_cg, up64 (p := q) (by omega)]; rfl) (.pos (by omega) (.pos (by omega) (.pos (by rw [rces_length, hS]; have := idx_lt hq' hq'; omega) (.ite (fun h0 => ?_) (fun h0 => ?_)))))
        · rw [if_neg]
          · exact .some
          · intro z
            have := okL_iff.1 z q hq'
            have h0' : (cg S (q * n + q)).most < 0 := h0
            omega
        · refine ih (q + 1) (by omega) fun j hj => ?_
          rcases Nat.lt_or_ge j q with h | h
          · exact hall j h
          · obtain rfl : j = q := by omega
            have h0' : ¬ (cg S (j * n + j)).most < 0 := h0
            simp [okAt, h0']
    exact key n 0 (by omega) (fun j hj => absurd hj (by omega))
  have h1 := closed_l1 h5 (by rw [diag_length]; exact hl) fin (n + 1) 0 (by omega)
  have h0 := closed_l0 h5 hl h1 n 0 (by omega)
  rw [show rep (closeD n) 0 (rels l) = rels l from rfl, rces_rels] at h0
  exact h0
theorem ev_Has {N : Int} {n : Nat} {l : List RC} {p : List Int} (hn : N + 1 = n) (h1 : 1 ≤ n) (h5 : n ≤ 16) (hl : (rels l).length = n * n) (hp : (p.length : Int) = N) (hf : ∀ z ∈ p, -1099511627776 ≤ z ∧ z ≤ 1099511627776) :
    Ev (fun k => R2_HasZone.f k N l p) (hasAll n (rels l) (0 :: p)) := by
  have hle : n * n ≤ 16 * 16 := Nat.mul_le_mul h5 h5
  have hl' : l.length = n * n := by rw [← rels_length]; exact hl
  have hnear : ∀ i, -1099511627776 ≤ (0 :: p).getD i 0 ∧ (0 :: p).getD i 0 ≤ 1099511627776 := by
    intro i
    by_cases hi : i < (0 :: p).length
    · have hm : (0 :: p).getD i 0 ∈ (0 :: p) := by
        rw [List.getD_eq_getElem?_getD, List.getElem?_eq_getElem hi, Option.getD_some]; exact List.getElem_mem hi
      rcases List.mem_cons.1 hm with h | h
      · rw [h]; omega
      · exact hf _ h
    · rw [List.getD_eq_getElem?_getD, List.getElem?_eq_none (by omega)]; simp
  unfold R2_HasZone.f
  refine .bind .some (.pos (by simp; omega) ?_)
  rw [List.singleton_append]
  have hpl : (0 :: p).length = n := by simp; omega
  have key : ∀ m i : Nat, i + m = n → (∀ a, a < i → ∀ b, b < n → okP n (rels l) (0 :: p) a b = true) → Ev (fun k => R2_HasZone.l0 k (0 :: p) (i : Int) N l) (hasAll n (rels l) (0 :: p)) := by
    intro m
    induction m with
    | zero =>
      intro i hi hall
      obtain rfl : i = n := by omega
      rw [hasAll_true (fun a b ha hb => hall a ha b hb)]
      exact Ev.step (fun k => by simp only [R2_HasZone.l0]; rfl) (.neg (by omega) .some)
    | succ m ih =>
      intro i hi hall
      have hi' : i < n := by omega
      have inner : ∀ m' j : Nat, j + m' = n → (∀ b, b < j → okP n (rels l) (0 :: p) i b = true) → Ev (fun k => R2_HasZone.l1 k (0 :: p) (i : Int) (j : Int) N l) (hasAll n (rels l) (0 :: p)) := by
        intro m'
        induction m' with
        | zero =>
          intro j hj hrow
          obtain rfl : j = n := by omega
          refine Ev.step (fun k => by simp only [R2_HasZone.l1, up64 (p := i) (by omega)]; rfl) (.neg (by omega) (ih (i + 1) (by omega) fun a ha b hb => ?_))
          rcases Nat.lt_or_ge a i with h | h
          · exact hall a h b hb
          · obtain rfl : a = i := by omega
            exact hrow b hb
        | succ m' ih' =>
          intro j hj hrow
          have hj' : j < n := by omega
          have ix := idx_lt hi' hj'
          have a1 := hnear i
          have a2 := hnear j
          have nx : okP n (rels l) (0 :: p) i j = true → Ev (fun k => R2_HasZone.l1 k (0 :: p) (i : Int) ((j + 1 : Nat) : Int) N l) (hasAll n (rels l) (0 :: p)) := fun h => ih' (j + 1) (by omega) fun b hb => by
            rcases Nat.lt_or_ge b j with h' | h'
            · exact hrow b h'
            · obtain rfl : b = j := by omega
              exact h
          rw [← rces_rels l] at nx ⊢
          rw [rels_rces] at nx ⊢
          refine Ev.step (fun k => by simp only [R2_HasZone.l1, idx64 (p := i) (q := j) hn h5 hi' hj', rdR_cg, up64 (p := j) (by omega)]; rfl) (.pos (by omega) (.pos (by omega) (.pos (by rw [rces_length, hl]; omega) (.ite (fun hh => ?_) (fun hh => ?_)))))
          · refine .pos (by omega) (.pos (by omega) (.pos (by omega) (.pos (by omega) (.ite (fun hg => ?_) (fun hg => ?_)))))
            · have hg' : wrap64 ((0 :: p).getD j 0 - (0 :: p).getD i 0) > (cg (rels l) (i * n + j)).most := hg
              rw [w64 (by omega) (by omega)] at hg'
              rw [hasAll_false hi' hj' (by unfold okP; rw [show (cg (rels l) (i * n + j)).has = true from hh, decide_eq_false (by omega)]; rfl)]
              exact .some
            · have hg' : ¬ wrap64 ((0 :: p).getD j 0 - (0 :: p).getD i 0) > (cg (rels l) (i * n + j)).most := hg
              rw [w64 (by omega) (by omega)] at hg'
              exact nx (by unfold okP; rw [decide_eq_true (by omega)]; simp)
          · exact nx (by unfold okP; rw [show (cg (rels l) (i * n + j)).has = false by simpa [rce] using hh]; rfl)
      exact Ev.step (fun k => by simp only [R2_HasZone.l0]; rfl) (.pos (by omega) (inner n 0 (by omega) (fun b hb => absurd hb (by omega))))
  exact key n 0 (by omega) (fun a ha => absurd ha (by omega))
end Go.Proofs.Rcp
