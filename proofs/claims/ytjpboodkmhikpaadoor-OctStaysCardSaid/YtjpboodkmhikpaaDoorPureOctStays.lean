/- Plain law: the law 'OctStays' as it is printed is true, whatever it is given. -/
import Derived.Test.YtjpboodkmhikpaaDoorPo
import Derived.Test.YtjpboodkmhikpaaDoorZpt
import Derived.Test.YtjpboodkmhikpaaDoorZ15
set_option linter.unusedVariables false
namespace Go.Proofs.Rcp
open Go.RowKit Go.Proofs.Rco Go.Proofs.Rcg Go.Proofs.Rcn Go.Proofs.YtjpboodkmhikpaaDoor.Z Go.Proofs.YtjpboodkmhikpaaDoorW.PrintWords Go.Proofs.YtjpboodkmhikpaaDoorW.PrintMore

def mzO (n len : Nat) (X : List Cel) : Nat := if closeO n X = none then len + 1 else hasC X
theorem mzO_le {n len : Nat} {X : List Cel} (h : X.length = len) : mzO n len X ≤ len + 1 := by
  unfold mzO
  split
  · exact Nat.le_refl _
  · have := hasC_le X; omega
theorem widL_rowO {n : Nat} {X K : List Cel} (R : RowO n X) (R' : RowO n K) : RowO n (widL X K) ∧ ∀ i j v, Bd (2 * n) (widL X K) i j v → Bd (2 * n) X i j v := by
  refine ⟨⟨by rw [widL_length]; exact R.len, fun k hk => ?_, near_widL R.near, fun a ha b hb => ?_⟩, ?_⟩
  · rw [cg_widL] at hk ⊢
    rcases widC_cases (cg X k) (cg K k) with e | ⟨_, e⟩
    · rw [e] at hk ⊢; exact R.norm k hk
    · rw [e]
  · rw [cg_widL, cg_widL, R.coh a ha b hb, R'.coh a ha b hb]
  · rintro i j v ⟨hi, hj, h1, h2⟩
    rw [cg_widL] at h1 h2
    rcases widC_cases (cg X (i * (2 * n) + j)) (cg K (i * (2 * n) + j)) with e | ⟨_, e⟩
    · rw [e] at h1 h2; exact ⟨hi, hj, h1, h2⟩
    · rw [e] at h1; cases h1
theorem owiden_val {N M : Int} {X K : List Cel} (h : oTwo N X M K = none) : ∃ Y, octagon_Widen.f N (oces X) M (oces K) = some (N, oces Y, none) ∧ Y.length = X.length ∧ (Y = X ∨ mzO (2 * N).toNat X.length Y + 1 ≤ mzO (2 * N).toNat X.length X) := by
  obtain ⟨e1, e2, rfl⟩ := zTwo_none h
  obtain ⟨n, hn, h4, R, en⟩ := nat_of e1
  obtain ⟨_, R'⟩ := rowO_of hn e2
  rw [en]
  unfold octagon_Widen.f
  rw [ocels_oces, ocels_oces, h]
  simp only [en]
  cases hX : closeO (2 * n) X with
  | none =>
    cases hK : closeO (2 * n) K with
    | none => exact ⟨X, rfl, rfl, .inl rfl⟩
    | some C =>
      obtain ⟨RC, S, hw, hs, _⟩ := closeO_some h4 R' hK
      have q4 : closeO (2 * n) C ≠ none := (closeO_iff h4 RC).2 (closeO_sub h4 RC S hw hs)
      refine ⟨C, rfl, by rw [RC.len, R.len], .inr ?_⟩
      unfold mzO
      rw [if_neg q4, if_pos hX]
      have := hasC_le C
      have e : C.length = X.length := by rw [RC.len, R.len]
      omega
  | some D =>
    cases hK : closeO (2 * n) K with
    | none => exact ⟨X, rfl, rfl, .inl rfl⟩
    | some C =>
      obtain ⟨RC, _⟩ := closeO_some h4 R' hK
      obtain ⟨RW, sub⟩ := widL_rowO R RC
      have hX' : closeO (2 * n) X ≠ none := by rw [hX]; simp
      have q := (closeO_iff h4 R).1 hX'
      obtain ⟨_, S, hw, _, hs, _⟩ := closeO_some h4 R hX
      have q4 : closeO (2 * n) (widL X C) ≠ none := (closeO_iff h4 RW).2 (closeO_sub h4 RW S hw (fun i j v b => hs i j v (sub i j v b)))
      refine ⟨widL X C, rfl, widL_length X C, ?_⟩
      have less := hasC_less X (widL X C) (widL_length X C).symm (fun j => by
        rw [cg_widL]
        rcases widC_cases (cg X j) (cg C j) with e | ⟨e1, e⟩
        · exact .inl e
        · exact .inr ⟨e1, by rw [e]⟩)
      rcases less.2 with e | e
      · exact .inl e
      · right
        unfold mzO
        rw [if_neg q4, if_neg hX']
        exact e
theorem owiden_err {N M : Int} {X K : List Cel} {e : Int} (h : oTwo N X M K = some e) : octagon_Widen.f N (oces X) M (oces K) = some (0, [], some e) := by
  unfold octagon_Widen.f
  rw [ocels_oces, ocels_oces, h]
theorem ostays_l0 {N : Int} {l0 : List RC} {l : List S78} (hl0 : l0.length ≤ 100) (hl : l.length ≤ 40) : ∀ (m i : Nat), i + m = l.length → ∀ (x : Nat) (X : List Cel), X.length = l0.length → x + mzO (2 * N).toNat l0.length X ≤ l0.length + 1 →
    Ev (fun k => L2_OctStays.l0 k l (x : Int) (i : Int) N l0 N (oces X)) true := by
  intro m
  induction m with
  | zero =>
    intro i hin x X hX hm
    refine Ev.step (h := fun _ => some true) (fun k => ?_) .some
    simp only [L2_OctStays.l0]
    rw [if_neg (by omega), w64 (by omega) (by omega), if_pos (by omega)]
  | succ m ih =>
    intro i hin x X hX hm
    have hlt : i < l.length := by omega
    have hrd : rd_T78 l (i : Int) = l[i] := by simp [rd_T78, List.getD_eq_getElem?_getD, List.getElem?_eq_getElem hlt]
    refine Ev.step (fun k => by simp only [L2_OctStays.l0, hrd]; rfl) (.pos (by omega) (.pos (by omega) ?_))
    generalize l[i] = z
    obtain ⟨M, lz⟩ := z
    refine .ite (fun _ => .some) (fun hz => ?_)
    simp only at hz
    refine .bind (ev_octOf (by show lz.length ≤ 1000; omega)) ?_
    show Ev (fun k => (octagon_Widen.f N (oces X) M (oces (rels lz))).bind _) true
    cases hE : oTwo N X M (rels lz) with
    | some e =>
      rw [owiden_err hE]
      exact .bind .some (.neg (by simp) .some)
    | none =>
      obtain ⟨Y, hv, hYl, hY⟩ := owiden_val hE
      rw [hv]
      refine .bind .some (.pos rfl (.bind (ev_octBack (by rw [oces_length]; omega)) (.bind (ev_isOct (by rw [oces_length]; omega)) ?_)))
      simp only [ocels_oces, rels_rces, true_and]
      have w1 : wrap64 ((i : Int) + 1) = ((i + 1 : Nat) : Int) := by rw [w64 (by omega) (by omega)]; push_cast; rfl
      rw [w1]
      by_cases e : Y = X
      · subst e
        refine .pos (by simp) (ih (i + 1) (by omega) x Y hX hm)
      · have w2 : wrap64 ((x : Int) + 1) = ((x + 1 : Nat) : Int) := by rw [w64 (by omega) (by omega)]; push_cast; rfl
        rw [w2]
        have h2 := hY.resolve_left e
        rw [hX] at h2
        have h3 : x + 1 + mzO (2 * N).toNat l0.length Y ≤ l0.length + 1 := Nat.le_trans (by rw [Nat.add_assoc, Nat.add_comm 1]; exact Nat.add_le_add_left h2 x) hm
        refine .neg (by simp [e]) (ih (i + 1) (by omega) (x + 1) Y (by rw [hYl, hX]) h3)
theorem pure_OctStays (N : Int) (l0 : List RC) (l : List S78) : Ev (fun k => L2_OctStays.f k N l0 l) true := by
  have skip : Ev (fun k => L2_OctStays.j0 k l true true N l0) true := Ev.step (h := fun _ => some true) (fun k => by simp only [L2_OctStays.j0, if_true]) .some
  unfold L2_OctStays.f
  refine .bind ev_odd (.pos rfl (.ite (fun _ => skip) (fun hl0 => ?_)))
  by_cases hl : (l.length : Int) > 40
  · rw [decide_eq_true hl]; exact skip
  · rw [decide_eq_false hl]
    refine Ev.step (fun k => by simp only [L2_OctStays.j0, Bool.false_eq_true, if_false]; rfl) (.bind (ev_octOf (by omega)) ?_)
    have h := ostays_l0 (N := N) (l0 := l0) (l := l) (by omega) (by omega) l.length 0 (by omega) 0 (rels l0) (rels_length l0) (by rw [Nat.zero_add]; exact mzO_le (rels_length l0))
    exact h
end Go.Proofs.Rcp
