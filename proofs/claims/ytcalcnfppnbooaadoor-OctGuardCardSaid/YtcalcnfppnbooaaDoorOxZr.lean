import Derived.Test.YtcalcnfppnbooaaDoorOxPz
import Derived.Test.YtcalcnfppnbooaaDoorOxZpt
import Derived.Test.YtcalcnfppnbooaaDoorOxRefZ
import Derived.Test.YtcalcnfppnbooaaDoorOxZh
import Derived.Test.YtcalcnfppnbooaaDoorOxCd
import Derived.Test.YtcalcnfppnbooaaDoorOxZ7
import Derived.Test.YtcalcnfppnbooaaDoorOxZ5
import Derived.Test.YtcalcnfppnbooaaDoorOxZ4
/- Plain law: the reference's functions of zones, as they are printed: what they come to. -/
set_option linter.unusedVariables false
set_option linter.unusedSimpArgs false
namespace Go.Proofs.Rcp
open Go.RowKit Go.Proofs.Rcg Go.Proofs.Rcn Go.Proofs.YtcalcnfppnbooaaDoor.Z Go.Proofs.YtcalcnfppnbooaaDoorW.PrintWords Go.Proofs.YtcalcnfppnbooaaDoorW.PrintMore

theorem rdR_cg {L : List Cel} (i : Nat) : rd_T67 (rces L) (i : Int) = rce (cg L i) := by
  by_cases h : i < L.length
  · rw [rdR_get (by rw [rces_length]; exact h)]
    simp [rces, cg, List.getD_eq_getElem?_getD, List.getElem?_eq_getElem h]
  · simp only [rd_T67, List.getD_eq_getElem?_getD, Int.toNat_natCast, cg]
    rw [List.getElem?_eq_none (by rw [rces_length]; omega), List.getElem?_eq_none (by omega)]
    rfl
theorem rces_set (L : List Cel) (k : Nat) (c : Cel) : (rces L).set k (rce c) = rces (L.set k c) := by simp [rces, List.map_set]
/-- An error's number, or 0. -/
abbrev eN (o : Option Int) : Int := o.getD 0
theorem far_max (a : Int) : R2_Far.f a 1099511627776 = some (zfar a) := far_n (by omega) a
/-- The error of rows of bounds. -/
def cErr (N : Int) (L : List Cel) (want : Int) : Option Int :=
  if N < 0 ∨ N > 4 then some 2 else if (L.length : Int) ≠ want then some 3 else if L.any bad = true then some 3 else if (L.any fun c => zfar c.most) = true then some 2 else none
theorem ev_cells {N want : Int} {l : List RC} (hl : l.length ≤ 1000) : Ev (fun k => R2_cellsError.f k N l want) (eN (cErr N (rels l) want)) := by
  have key : ∀ (n i : Nat) (g : Bool), i + n = l.length → Ev (fun k => R2_cellsError.l0 k l g (i : Int)) (if (rels (l.drop i)).any bad = true then 3 else if (g || (rels (l.drop i)).any fun c => zfar c.most) = true then 2 else 0) := by
    intro n
    induction n with
    | zero =>
      intro i g hin
      rw [List.drop_eq_nil_of_le (by omega)]
      refine Ev.step (h := fun _ => some (if g = true then 2 else 0)) (fun k => ?_) (by cases g <;> exact .some)
      simp only [R2_cellsError.l0]
      rw [if_neg (by omega)]
      cases g <;> rfl
    | succ n ih =>
      intro i g hin
      have hlt : i < l.length := by omega
      have nx := ih (i + 1)
      rw [List.drop_eq_getElem_cons hlt]
      refine Ev.step (fun k => by simp only [R2_cellsError.l0, rdR_get hlt, up64 (p := i) (by omega), far_max]; rfl) (.pos (by omega) (.pos (by omega) ?_))
      simp only [rels, List.map_cons, List.any_cons] at nx ⊢
      generalize l[i] = x at nx ⊢
      obtain ⟨xh, xm⟩ := x
      show Ev (fun k => if xh = true then (some (zfar xm)).bind fun t => if g = true then R2_cellsError.l0 k l true ((i + 1 : Nat) : Int) else R2_cellsError.l0 k l t ((i + 1 : Nat) : Int) else if xm = 0 then (some (zfar xm)).bind fun t => if g = true then R2_cellsError.l0 k l true ((i + 1 : Nat) : Int) else R2_cellsError.l0 k l t ((i + 1 : Nat) : Int) else some 3) _
      have both : ∀ B : Bool, B = (bad ⟨xh, xm⟩) → B = false → Ev (fun k => (some (zfar xm)).bind fun t => if g = true then R2_cellsError.l0 k l true ((i + 1 : Nat) : Int) else R2_cellsError.l0 k l t ((i + 1 : Nat) : Int))
          (if (bad (rel ⟨xh, xm⟩) || (List.map rel (List.drop (i + 1) l)).any bad) = true then 3 else if (g || (zfar (rel ⟨xh, xm⟩).most || (List.map rel (List.drop (i + 1) l)).any fun c => zfar c.most)) = true then 2 else 0) := by
        intro B e hB
        rw [show bad (rel ⟨xh, xm⟩) = false by show bad ⟨xh, xm⟩ = false; rw [← e, hB], Bool.false_or, show zfar (rel ⟨xh, xm⟩).most = zfar xm from rfl]
        refine .bind .some (.ite (fun hg => ?_) (fun hg => ?_))
        · have := nx true (by omega)
          subst hg
          exact this
        · have := nx (zfar xm) (by omega)
          have hg' : g = false := by simpa using hg
          subst hg'
          rw [Bool.false_or]
          exact this
      refine .ite (fun hx => ?_) (fun hx => .ite (fun h0 => ?_) (fun h0 => ?_))
      · subst hx; exact both false rfl rfl
      · have hx' : xh = false := by simpa using hx
        subst hx' h0
        exact both false rfl rfl
      · have hx' : xh = false := by simpa using hx
        subst hx'
        rw [show bad (rel ⟨false, xm⟩) = true by show bad ⟨false, xm⟩ = true; simp [bad, h0], Bool.true_or, if_pos rfl]
        exact .some
  unfold R2_cellsError.f cErr
  refine .ite (fun h => ?_) (fun h => ?_)
  · rw [if_pos (.inl h)]
    exact Ev.step (h := fun _ => some 2) (fun k => by simp only [R2_cellsError.j0, if_true]) .some
  · by_cases h4 : N > 4
    · rw [decide_eq_true h4, if_pos (.inr h4)]
      exact Ev.step (h := fun _ => some 2) (fun k => by simp only [R2_cellsError.j0, if_true]) .some
    · rw [decide_eq_false h4, if_neg (by omega)]
      refine Ev.step (fun k => by simp only [R2_cellsError.j0, Bool.false_eq_true, if_false]; rfl) (.ite (fun hw => ?_) (fun hw => ?_))
      · rw [if_neg (by rw [rels_length]; exact fun q => q hw)]
        have := key l.length 0 false (by omega)
        simp only [List.drop_zero, Bool.false_or] at this
        have e : eN (if (rels l).any bad = true then some 3 else if ((rels l).any fun c => zfar c.most) = true then some 2 else none) = if (rels l).any bad = true then 3 else if ((rels l).any fun c => zfar c.most) = true then 2 else 0 := by
          split
          · rfl
          · split <;> rfl
        rw [e]
        exact this
      · rw [if_pos (by rw [rels_length]; exact hw)]
        exact .some
theorem lower_val {L : List Cel} {i : Nat} (hi : i < L.length) (m : Int) : ∃ b, R2_lower.f (rces L) (i : Int) m = some (b, rces (leastL L i true m)) := by
  unfold R2_lower.f
  rw [if_pos (by omega), if_pos (by rw [rces_length]; omega), rdR_cg]
  unfold leastL leastC
  have hs := set_self L i
  generalize cg L i = c at hs ⊢
  obtain ⟨h, x⟩ := c
  cases h
  · exact ⟨true, by simp [rce, rces, List.map_set]⟩
  · by_cases hm : x ≤ m
    · refine ⟨false, ?_⟩
      rw [if_pos (show (rce ⟨true, x⟩).f0 = true from rfl), if_pos (show (rce ⟨true, x⟩).f1 ≤ m from hm), if_neg (by simp; omega), hs]
    · refine ⟨true, ?_⟩
      rw [if_pos (show (rce ⟨true, x⟩).f0 = true from rfl), if_neg (show ¬ (rce ⟨true, x⟩).f1 ≤ m from hm), if_pos (by simp; omega)]
      simp [rce, rces, List.map_set]
theorem ev_clip (L : List Cel) (hl : L.length ≤ 1000) : Ev (fun k => R2_clip.f k (rces L)) (rces (L.map clipC)) := by
  have key : ∀ (n i : Nat), i + n = L.length → Ev (fun k => R2_clip.l0 k (rces (rep clipAt i L)) (i : Int)) (rces (L.map clipC)) := by
    intro n
    induction n with
    | zero =>
      intro i hin
      obtain rfl : i = L.length := by omega
      rw [rep_clip_all]
      refine Ev.step (h := fun _ => some (rces (L.map clipC))) (fun k => ?_) .some
      simp only [R2_clip.l0]
      rw [if_neg (by rw [rces_length, List.length_map]; omega)]
    | succ n ih =>
      intro i hin
      have hlt : i < L.length := by omega
      have hll : (rep clipAt i L).length = L.length := rep_length clipAt_length i L
      have nx := ih (i + 1) (by omega)
      have hc := rep_clip_at L hlt
      rw [show rep clipAt (i + 1) L = clipAt (rep clipAt i L) i from rfl, clipAt] at nx
      generalize rep clipAt i L = X at nx hll hc ⊢
      have hs := set_self X i
      generalize hcc : cg X i = c at nx hs ⊢
      obtain ⟨h, m⟩ := c
      refine Ev.step (fun k => by simp only [R2_clip.l0, rdR_cg, hcc, up64 (p := i) (by omega), Int.toNat_natCast]; rfl) (.pos (by rw [rces_length]; omega) (.pos (by omega) ?_))
      unfold clipC at nx
      refine .ite (fun h1 => ?_) (fun h1 => .ite (fun h2 => ?_) (fun h2 => ?_))
      · rw [if_pos (show m > 1099511627776 from h1)] at nx
        refine .bind .some ?_
        have e : (rces X).set i (⟨false, 0⟩ : RC) = rces (X.set i ⟨false, 0⟩) := rces_set X i ⟨false, 0⟩
        rw [e]
        have e2 : rd_T67 (rces (X.set i ⟨false, 0⟩)) (i : Int) = ⟨false, 0⟩ := by
          rw [rdR_cg, cg_set, if_pos ⟨rfl, by omega⟩]; rfl
        simp only [e2]
        exact .neg (by decide) nx
      · rw [if_neg (show ¬ m > 1099511627776 from h1), if_pos (show m < -1099511627776 from h2)] at nx
        have e : (rces X).set i (⟨h, -1099511627776⟩ : RC) = rces (X.set i ⟨h, -1099511627776⟩) := rces_set X i ⟨h, -1099511627776⟩
        show Ev (fun k => R2_clip.l0 k ((rces X).set i (⟨h, -1099511627776⟩ : RC)) ((i + 1 : Nat) : Int)) _
        rw [e]
        exact nx
      · rw [if_neg (show ¬ m > 1099511627776 from h1), if_neg (show ¬ m < -1099511627776 from h2), hs] at nx
        exact nx
  exact key L.length 0 (by omega)
section
variable {N : Int} {n : Nat} {r : Int × List RC × Bool}
theorem rep_len_closeJ {n i j : Nat} {X : List Cel} (q : Nat) : (rep (fun M k => closeJ n k i M j) q X).length = X.length := rep_length (f := fun M k => closeJ n k i M j) (fun L k => leastL_length ..) q X
theorem swJ_length (n i X j) : (swJ n i X j).length = X.length := rep_len_closeJ n
end
/-- What the reference's closing comes to, as it is printed. -/
def shutR (N : Int) (C : Option (List Cel)) : Int × List RC × Bool := match C with | none => (0, [], false) | some C => (N, rces C, true)
end Go.Proofs.Rcp
