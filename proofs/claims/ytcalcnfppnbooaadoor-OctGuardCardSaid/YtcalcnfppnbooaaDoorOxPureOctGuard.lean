import Derived.Test.YtcalcnfppnbooaaDoorOxOb
import Derived.Test.YtcalcnfppnbooaaDoorOxZ25
import Derived.Test.YtcalcnfppnbooaaDoorOxZ39
/- Plain law: the law 'OctGuard' as it is printed is true, whatever it is given. -/
set_option linter.unusedVariables false
set_option linter.unusedSimpArgs false
namespace Go.Proofs.Rcp
open Go.RowKit Go.Proofs.Rco Go.Proofs.Rcg Go.Proofs.Rcn Go.Proofs.YtcalcnfppnbooaaDoor.Z Go.Proofs.YtcalcnfppnbooaaDoorW.PrintWords Go.Proofs.YtcalcnfppnbooaaDoorW.PrintMore

/-- The error of a bound put to it. -/
def gErr (N : Int) (L : List Cel) (a x b y c : Int) : Option Int := match oErr N L with
  | some e => some e
  | none => if (x < 0 ∨ x ≥ N ∨ y < 0 ∨ y ≥ N) ∨ (a < -1 ∨ a > 1 ∨ b < -1 ∨ b > 1) ∨ x = y then some 3 else if zfar c = true then some 2 else none
theorem few_gErr (N : Int) (L : List Cel) (a x b y c : Int) : fewO (gErr N L a x b y c) := by
  unfold gErr
  have := few_oErr N L
  cases h : oErr N L with
  | some e => rw [h] at this; exact this
  | none =>
    simp only
    repeat' split
    all_goals first | exact .inl rfl | exact .inr (.inl rfl) | exact .inr (.inr (.inl rfl))
/-- What is left of it, told whole. -/
def guardO (N : Int) (L : List Cel) (a x b y c : Int) : Int × List OC × Bool :=
  if a = 0 ∧ b = 0 then (if c < 0 then (0, [], false) else shutO N L) else shutO N (boundL (2 * N).toNat a x.toNat b y.toNat c L)
theorem guard_all {N : Int} {L : List Cel} {a x b y c : Int} : octagon_Guard.f N (oces L) a x b y c = some (match gErr N L a x b y c with
    | some e => (0, [], false, some e) | none => ((guardO N L a x b y c).1, (guardO N L a x b y c).2.1, (guardO N L a x b y c).2.2, none)) := by
  unfold octagon_Guard.f gErr guardO
  rw [ocels_oces]
  cases h : oErr N L with
  | some e => rfl
  | none =>
    simp only
    by_cases h1 : (x < 0 ∨ x ≥ N ∨ y < 0 ∨ y ≥ N) ∨ (a < -1 ∨ a > 1 ∨ b < -1 ∨ b > 1) ∨ x = y
    · rw [if_pos h1, if_pos h1]
    · rw [if_neg h1, if_neg h1]
      by_cases h2 : zfar c = true
      · rw [if_pos h2, if_pos h2]
      · rw [if_neg h2, if_neg h2]
        by_cases h3 : a = 0 ∧ b = 0
        · rw [if_pos h3, if_pos h3]
          by_cases h4 : c < 0
          · rw [if_pos h4, if_pos h4]
          · rw [if_neg h4, if_neg h4]
        · rw [if_neg h3, if_neg h3]
theorem eN_posG {o : Option Int} (h : fewO o) : (o = none ∧ eN o = 0) ∨ (∃ e, o = some e ∧ eN o > 0 ∧ eN o ≠ 0) := by
  rcases h with rfl | rfl | rfl | rfl
  · exact .inl ⟨rfl, rfl⟩
  · exact .inr ⟨2, rfl, by decide, by decide⟩
  · exact .inr ⟨3, rfl, by decide, by decide⟩
  · exact .inr ⟨7, rfl, by decide, by decide⟩
section
variable {N a x b y c : Int} {l : List RC}
/-- What the law says of what is left. -/
theorem guard_same {L : List Cel} {n : Nat} {r : Bool} (hn : N = n) (h4 : n ≤ 4) (R : RowO n L) (hr : r = (shutO N L).2.2) (g : (Bool) → Option Bool) :
    (r == (shutR N (closeO (2 * n) L)).2.2) = true ∧ Ev (fun k => L2_isOct.f k (shutO N L).1 (shutO N L).2.1 (shutR N (closeO (2 * n) L)).1 (shutR N (closeO (2 * n) L)).2.1) true := by
  subst hr
  cases hz : closeO (2 * n) L with
  | none =>
    rw [shutO_none hn hz]
    exact ⟨rfl, ev_isOct (N := 0) (M := 0) (l := []) (m := []) (by decide)⟩
  | some C =>
    rw [shutO_some hn hz]
    have hCl := (closeO_some h4 R hz).1.len
    have := ev_isOct (N := N) (M := N) (l := oces C) (m := rces C) (by rw [oces_length, hCl]; exact Nat.le_trans (Nat.mul_le_mul (show 2 * n ≤ 8 by omega) (show 2 * n ≤ 8 by omega)) (by decide))
    rw [decide_eq_true (by rw [ocels_oces, rels_rces]; exact ⟨rfl, rfl⟩)] at this
    exact ⟨rfl, this⟩
theorem guard_j6 (hl : l.length ≤ 100) {v : Int} (hv : v = eN (gErr N (rels l) a x b y c)) : Ev (fun k => L2_OctGuard.j6 k a x b y c v N l) true := by
  refine Ev.step (fun k => by simp only [L2_OctGuard.j6]; rfl) (.bind (ev_octOf (N := N) (l := l) (by omega)) ?_)
  simp only [guard_all]
  refine .bind .some ?_
  have hB := few_gErr N (rels l) a x b y c
  rcases eN_posG hB with ⟨hb, h0⟩ | ⟨e, hb, hpos, _⟩
  · rw [h0] at hv
    subst hv
    rw [hb]
    simp only
    refine .neg (by decide) (.bind (ev_near l) ?_)
    have out : Ev (fun k => L2_OctGuard.j7 k a x b y c (guardO N (rels l) a x b y c).2.2 none true N l (guardO N (rels l) a x b y c).1 (guardO N (rels l) a x b y c).2.1) true :=
      Ev.step (h := fun _ => some true) (fun k => by simp only [L2_OctGuard.j7, if_true]) .some
    cases hnb : nearB (rels l) with
    | false => exact .neg Bool.false_ne_true out
    | true =>
      have hN1 := (nearB_near hnb).2
      refine .pos rfl ?_
      rw [far_n (n := 1048576) (by omega) c]
      refine .bind .some ?_
      by_cases hc : c > 1048576 ∨ c < -1048576
      · rw [decide_eq_true hc]; exact out
      rw [decide_eq_false hc]
      unfold gErr at hb
      cases e1 : oErr N (rels l) with
      | some e => rw [e1] at hb; simp at hb
      | none =>
        rw [e1] at hb
        simp only at hb
        have hx : ¬ ((x < 0 ∨ x ≥ N ∨ y < 0 ∨ y ≥ N) ∨ (a < -1 ∨ a > 1 ∨ b < -1 ∨ b > 1) ∨ x = y) := by intro q; rw [if_pos q] at hb; cases hb
        obtain ⟨n, hn, h4, R, en⟩ := nat_of e1
        obtain ⟨x', rfl⟩ : ∃ p : Nat, x = p := ⟨x.toNat, by omega⟩
        obtain ⟨y', rfl⟩ : ∃ p : Nat, y = p := ⟨y.toNat, by omega⟩
        have R1 := ev_ClosedOct hn h4 R (b := 1048576) (by decide) (by decide) hN1
        refine Ev.step (fun k => by simp only [L2_OctGuard.j7, Bool.false_eq_true, if_false]; rfl) (.bind R1 ?_)
        have eight : ∀ h : Bool, h = decide (a ≠ 0 ∨ b ≠ 0) → Ev (fun k => L2_OctGuard.j8 k a (x' : Int) b (y' : Int) c (guardO N (rels l) a x' b y' c).2.2 none (shutR N (closeO (2 * n) (rels l))).2.2 h N l (guardO N (rels l) a x' b y' c).1 (guardO N (rels l) a x' b y' c).2.1 (shutR N (closeO (2 * n) (rels l))).1 (shutR N (closeO (2 * n) (rels l))).2.1) true := by
          intro h hh
          refine Ev.step (fun k => by simp only [L2_OctGuard.j8]; rfl) ?_
          by_cases hab : a = 0 ∧ b = 0
          · obtain rfl : h = false := by rw [hh]; exact decide_eq_false (by omega)
            refine .neg Bool.false_ne_true ?_
            unfold guardO
            rw [if_pos hab]
            refine .ite (fun h1 => ?_) (fun h1 => ?_)
            · rw [if_pos h1]
              exact .pos rfl (.pos rfl (.bind (ev_isOct (N := 0) (M := 0) (l := []) (m := []) (by decide)) .some))
            · rw [if_neg h1]
              obtain ⟨s1, s2⟩ := guard_same (r := (shutO N (rels l)).2.2) hn h4 R rfl some
              exact .pos rfl (.pos s1 (.bind s2 .some))
          · obtain rfl : h = true := by rw [hh]; exact decide_eq_true (by omega)
            refine .pos rfl ?_
            unfold guardO
            rw [if_neg hab, en, Int.toNat_natCast, Int.toNat_natCast]
            have Rb := rowO_boundL R (a := a) (b := b) (c := c) (x := x') (y := y') (by omega) (by omega) (by omega)
            have hb2 := ev_BoundOct (a := a) (b := b) (c := c) hn h4 R.len (x := x') (y := y') (by omega) (by omega) (by omega) hab
            have R2 := ev_ClosedOct (l := rces (boundL (2 * n) a x' b y' c (rels l))) hn h4 (by rw [rels_rces]; exact Rb) (b := 2097152) (by decide) (by decide) (by rw [rels_rces]; exact near_boundL (near_mono hN1 (by decide)) (by omega))
            rw [rels_rces] at R2
            obtain ⟨s1, s2⟩ := guard_same (r := (shutO N (boundL (2 * n) a x' b y' c (rels l))).2.2) hn h4 Rb rfl some
            exact .bind hb2 (.bind R2 (.pos rfl (.pos s1 (.bind s2 .some))))
        refine .ite (fun h => ?_) (fun h => ?_)
        · exact eight _ (by rw [Bool.eq_iff_iff]; simp [h])
        · exact eight _ (by rw [Bool.eq_iff_iff]; simp [h])
  · rw [hb] at hB hv ⊢
    simp only
    refine .pos (by rw [hv, ← hb]; exact hpos) ?_
    rw [coded_fewO hB]
    exact .bind .some (.pos (by rw [hv]; simp) (.neg Bool.false_ne_true (.bind (x := true) (.of fun k => rfl) .some)))
theorem pure_OctGuard (N : Int) (l : List RC) (a x b y c : Int) : Ev (fun k => L2_OctGuard.f k N l a x b y c) true := by
  have skip : Ev (fun k => L2_OctGuard.j0 k a x b y c true true N l) true := Ev.step (h := fun _ => some true) (fun k => by simp only [L2_OctGuard.j0, if_true]) .some
  unfold L2_OctGuard.f
  refine .bind ev_odd (.pos rfl ?_)
  by_cases hl : (l.length : Int) > 100
  · rw [decide_eq_true hl]; exact skip
  rw [decide_eq_false hl]
  have six : ∀ v, v = eN (gErr N (rels l) a x b y c) → Ev (fun k => L2_OctGuard.j6 k a x b y c v N l) true := fun v hv => guard_j6 (by omega) hv
  have five : ∀ v, ∀ h : Bool, (if h = true then 2 else v) = eN (gErr N (rels l) a x b y c) → Ev (fun k => L2_OctGuard.j5 k a x b y c v h N l) true := by
    intro v h hh
    cases h with
    | true => exact Ev.step (fun k => by simp only [L2_OctGuard.j5, if_true]) (six 2 hh)
    | false => exact Ev.step (fun k => by simp only [L2_OctGuard.j5, Bool.false_eq_true, if_false]) (six v hh)
  have four : ∀ v, (if v = 0 ∧ zfar c = true then 2 else v) = eN (gErr N (rels l) a x b y c) → Ev (fun k => L2_OctGuard.j4 k a x b y c v N l) true := by
    intro v hh
    refine Ev.step (fun k => by simp only [L2_OctGuard.j4, far_max]; rfl) (.ite (fun h => .bind .some (five v _ ?_)) (fun h => five v _ ?_))
    · rw [← hh]; by_cases q : zfar c = true
      · rw [if_pos q, if_pos ⟨h, q⟩]
      · rw [if_neg q, if_neg (fun q2 => q q2.2)]
    · rw [← hh, if_neg (by decide), if_neg (fun q2 => h q2.1)]
  have three : ∀ v, ∀ h : Bool, (if h = true then 3 else if v = 0 ∧ zfar c = true then 2 else v) = eN (gErr N (rels l) a x b y c) → Ev (fun k => L2_OctGuard.j3 k a x b y c v h N l) true := by
    intro v h hh
    cases h with
    | true => exact Ev.step (fun k => by simp only [L2_OctGuard.j3, if_true]) (four 3 hh)
    | false => exact Ev.step (fun k => by simp only [L2_OctGuard.j3, Bool.false_eq_true, if_false]) (four v hh)
  have two : ∀ v, (if v = 0 ∧ (a < -1 ∨ a > 1 ∨ b < -1 ∨ b > 1) then 3 else if v = 0 ∧ zfar c = true then 2 else v) = eN (gErr N (rels l) a x b y c) → Ev (fun k => L2_OctGuard.j2 k a x b y c v N l) true := by
    intro v hh
    have yes : v = 0 → (a < -1 ∨ a > 1 ∨ b < -1 ∨ b > 1) → Ev (fun k => L2_OctGuard.j3 k a x b y c v true N l) true := fun h h2 => three v true (by rw [← hh, if_pos rfl, if_pos ⟨h, h2⟩])
    have no : ¬ (v = 0 ∧ (a < -1 ∨ a > 1 ∨ b < -1 ∨ b > 1)) → Ev (fun k => L2_OctGuard.j3 k a x b y c v false N l) true := fun h => three v false (by rw [← hh, if_neg (by decide), if_neg h])
    refine Ev.step (fun k => by simp only [L2_OctGuard.j2]; rfl) (.ite (fun h => .ite (fun h1 => yes h (by omega)) (fun h1 => .ite (fun h2 => yes h (by omega)) (fun h2 => .ite (fun h3 => yes h (by omega)) (fun h3 => ?_)))) (fun h => no (fun q => h q.1)))
    by_cases h4 : b > 1
    · rw [decide_eq_true h4]; exact yes h (by omega)
    · rw [decide_eq_false h4]; exact no (by omega)
  have one : ∀ v, ∀ h : Bool, (if h = true then 3 else if v = 0 ∧ (a < -1 ∨ a > 1 ∨ b < -1 ∨ b > 1) then 3 else if v = 0 ∧ zfar c = true then 2 else v) = eN (gErr N (rels l) a x b y c) → Ev (fun k => L2_OctGuard.j1 k a x b y c v h N l) true := by
    intro v h hh
    cases h with
    | true => exact Ev.step (fun k => by simp only [L2_OctGuard.j1, if_true]) (two 3 hh)
    | false => exact Ev.step (fun k => by simp only [L2_OctGuard.j1, Bool.false_eq_true, if_false]) (two v hh)
  refine Ev.step (fun k => by simp only [L2_OctGuard.j0, Bool.false_eq_true, if_false]; rfl) (.bind (ev_OctError (by omega)) ?_)
  have hE := few_oErr N (rels l)
  rcases eN_posG hE with ⟨e, h0⟩ | ⟨e, h, _, h1⟩
  · have hg : gErr N (rels l) a x b y c = if (x < 0 ∨ x ≥ N ∨ y < 0 ∨ y ≥ N) ∨ (a < -1 ∨ a > 1 ∨ b < -1 ∨ b > 1) ∨ x = y then some 3 else if zfar c = true then some 2 else none := by unfold gErr; rw [e]
    rw [h0]
    have yes : (x < 0 ∨ x ≥ N ∨ y < 0 ∨ y ≥ N ∨ x = y) → Ev (fun k => L2_OctGuard.j1 k a x b y c 0 true N l) true := fun h => one 0 true (by rw [hg, if_pos rfl, if_pos (by omega)]; rfl)
    have no : ¬ (x < 0 ∨ x ≥ N ∨ y < 0 ∨ y ≥ N ∨ x = y) → Ev (fun k => L2_OctGuard.j1 k a x b y c 0 false N l) true := fun h => one 0 false (by
      rw [hg, if_neg (by decide)]
      by_cases h2 : a < -1 ∨ a > 1 ∨ b < -1 ∨ b > 1
      · rw [if_pos ⟨rfl, h2⟩, if_pos (by omega)]; rfl
      · have e2 : ¬ ((x < 0 ∨ x ≥ N ∨ y < 0 ∨ y ≥ N) ∨ (a < -1 ∨ a > 1 ∨ b < -1 ∨ b > 1) ∨ x = y) := by omega
        rw [if_neg e2, if_neg (show ¬ ((0 : Int) = 0 ∧ (a < -1 ∨ a > 1 ∨ b < -1 ∨ b > 1)) from fun q => h2 q.2)]
        by_cases h3 : zfar c = true
        · rw [if_pos (show (0 : Int) = 0 ∧ zfar c = true from ⟨rfl, h3⟩), if_pos h3]; rfl
        · rw [if_neg (show ¬ ((0 : Int) = 0 ∧ zfar c = true) from fun q => h3 q.2), if_neg h3]; rfl)
    refine .pos rfl (.ite (fun h1 => yes (by omega)) (fun h1 => .ite (fun h2 => yes (by omega)) (fun h2 => .ite (fun h3 => yes (by omega)) (fun h3 => .ite (fun h4 => yes (by omega)) (fun h4 => ?_)))))
    by_cases h5 : x = y
    · rw [show (x == y) = true by simpa using h5]; exact yes (by omega)
    · rw [show (x == y) = false by simpa using h5]; exact no (by omega)
  · refine .neg h1 (one _ false ?_)
    have hg : gErr N (rels l) a x b y c = some e := by unfold gErr; rw [h]
    rw [if_neg (by decide), if_neg (fun q => h1 q.1), if_neg (fun q => h1 q.1), hg, h]
end
end Go.Proofs.Rcp
