/- Plain law: the law 'ZoneStays' as it is printed is true, whatever it is given. -/
import Derived.Test.YtjpboodkmhikpaaDoorPz
import Derived.Test.YtjpboodkmhikpaaDoorZn
import Derived.Test.YtjpboodkmhikpaaDoorZstays
import Derived.Test.YtjpboodkmhikpaaDoorZ7
set_option linter.unusedVariables false
namespace Go.Proofs.Rcp
open Go.RowKit Go.Proofs.Rcg Go.Proofs.Rcn Go.Proofs.YtjpboodkmhikpaaDoor.Z Go.Proofs.YtjpboodkmhikpaaDoorW.PrintWords Go.Proofs.YtjpboodkmhikpaaDoorW.PrintMore

theorem near_of {N : Int} {L : List Cel} (h : zErr N L = none) : Near 1099511627776 L := by
  obtain ⟨n, hn, h1, h5, hl, _, hf⟩ := zErr_none h
  intro k
  by_cases hk : k < L.length
  · have := hf k hk
    unfold zfar at this
    have := of_decide_eq_false this
    omega
  · rw [cg_out (by omega)]
    simp
theorem widen_val {N M : Int} {X K : List Cel} (h : zTwo N X M K = none) : ∃ Y, zone_Widen.f N (zces X) M (zces K) = some (N, zces Y, none) ∧ Y.length = X.length ∧ (Y = X ∨ mz (N + 1).toNat X.length Y + 1 ≤ mz (N + 1).toNat X.length X) := by
  obtain ⟨e1, e2, rfl⟩ := zTwo_none h
  obtain ⟨n, hn, h1, h5, hl, _, _⟩ := zErr_none e1
  obtain ⟨n', hn', _, _, hl', _, _⟩ := zErr_none e2
  obtain rfl : n' = n := by omega
  have en : (N + 1).toNat = n' := by omega
  rw [en]
  have hNX := near_of e1
  have hNK := near_of e2
  unfold zone_Widen.f
  rw [cels_zces, cels_zces, h]
  simp only [en]
  cases hX : closeZ n' X with
  | none =>
    cases hK : closeZ n' K with
    | none => exact ⟨X, rfl, rfl, .inl rfl⟩
    | some C =>
      obtain ⟨q1, q2, _, q4⟩ := closed_some h5 hl' hNK hK
      refine ⟨C, rfl, by rw [q1, hl], .inr ?_⟩
      unfold mz
      rw [if_neg q4, if_pos hX]
      have := hasC_le C
      omega
  | some D =>
    cases hK : closeZ n' K with
    | none => exact ⟨X, rfl, rfl, .inl rfl⟩
    | some C =>
      obtain ⟨q1, _, q3⟩ := wid_step (K := C) h5 hl hl.symm hNX (by rw [hX]; simp)
      exact ⟨widL X C, rfl, q1, q3⟩
theorem widen_err {N M : Int} {X K : List Cel} {e : Int} (h : zTwo N X M K = some e) : zone_Widen.f N (zces X) M (zces K) = some (0, [], some e) := by
  unfold zone_Widen.f
  rw [cels_zces, cels_zces, h]
theorem stays_l0 {N : Int} {l0 : List RC} {l : List S33} (hl0 : l0.length ≤ 100) (hl : l.length ≤ 40) : ∀ (m i : Nat), i + m = l.length → ∀ (x : Nat) (X : List Cel), X.length = l0.length → x + mz (N + 1).toNat l0.length X ≤ l0.length + 1 →
    Ev (fun k => L2_ZoneStays.l0 k l (x : Int) (i : Int) N l0 N (zces X)) true := by
  intro m
  induction m with
  | zero =>
    intro i hin x X hX hm
    refine Ev.step (h := fun _ => some true) (fun k => ?_) .some
    simp only [L2_ZoneStays.l0]
    rw [if_neg (by omega), w64 (by omega) (by omega), decide_eq_true (by omega)]
  | succ m ih =>
    intro i hin x X hX hm
    have hlt : i < l.length := by omega
    have hrd : rd_T33 l (i : Int) = l[i] := by simp [rd_T33, List.getD_eq_getElem?_getD, List.getElem?_eq_getElem hlt]
    refine Ev.step (fun k => by simp only [L2_ZoneStays.l0, hrd]; rfl) (.pos (by omega) (.pos (by omega) ?_))
    generalize l[i] = z
    obtain ⟨M, lz⟩ := z
    refine .ite (fun _ => .some) (fun hz => ?_)
    simp only at hz
    refine .bind (ev_zoneOf (by show lz.length ≤ 1000; omega)) ?_
    show Ev (fun k => (zone_Widen.f N (zces X) M (zces (rels lz))).bind _) true
    cases hE : zTwo N X M (rels lz) with
    | some e =>
      rw [widen_err hE]
      exact .bind .some (.neg (by simp) .some)
    | none =>
      obtain ⟨Y, hv, hYl, hY⟩ := widen_val hE
      rw [hv]
      refine .bind .some (.pos rfl (.bind (ev_zoneBack (by rw [zces_length]; omega)) (.bind (ev_isZone (by rw [zces_length]; omega)) ?_)))
      simp only [cels_zces, rels_rces, true_and]
      have w1 : wrap64 ((i : Int) + 1) = ((i + 1 : Nat) : Int) := by rw [w64 (by omega) (by omega)]; push_cast; rfl
      rw [w1]
      by_cases e : Y = X
      · subst e
        refine .pos (by simp) (ih (i + 1) (by omega) x Y hX hm)
      · have w2 : wrap64 ((x : Int) + 1) = ((x + 1 : Nat) : Int) := by rw [w64 (by omega) (by omega)]; push_cast; rfl
        rw [w2]
        have h2 := hY.resolve_left e
        rw [hX] at h2
        have h3 : x + 1 + mz (N + 1).toNat l0.length Y ≤ l0.length + 1 := Nat.le_trans (by rw [Nat.add_assoc, Nat.add_comm 1]; exact Nat.add_le_add_left h2 x) hm
        refine .neg (by simp [e]) (ih (i + 1) (by omega) (x + 1) Y (by rw [hYl, hX]) h3)
theorem pure_ZoneStays (N : Int) (l0 : List RC) (l : List S33) : Ev (fun k => L2_ZoneStays.f k N l0 l) true := by
  have skip : Ev (fun k => L2_ZoneStays.j0 k l true true N l0) true := Ev.step (h := fun _ => some true) (fun k => by simp only [L2_ZoneStays.j0, if_true]) .some
  unfold L2_ZoneStays.f
  refine .bind ev_free (.pos rfl (.ite (fun _ => skip) (fun hl0 => ?_)))
  by_cases hl : (l.length : Int) > 40
  · rw [decide_eq_true hl]; exact skip
  · rw [decide_eq_false hl]
    refine Ev.step (fun k => by simp only [L2_ZoneStays.j0, Bool.false_eq_true, if_false]; rfl) (.bind (ev_zoneOf (by omega)) ?_)
    have h := stays_l0 (N := N) (l0 := l0) (l := l) (by omega) (by omega) l.length 0 (by omega) 0 (rels l0) (rels_length l0) (by rw [Nat.zero_add]; exact mz_le (rels_length l0))
    exact h
end Go.Proofs.Rcp
