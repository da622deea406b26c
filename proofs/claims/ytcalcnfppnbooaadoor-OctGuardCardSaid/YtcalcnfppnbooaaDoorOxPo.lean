import Derived.Test.YtcalcnfppnbooaaDoorOxPz
import Derived.Test.YtcalcnfppnbooaaDoorOxQk
import Derived.Test.YtcalcnfppnbooaaDoorOxZ23
import Derived.Test.YtcalcnfppnbooaaDoorOxZ24
/- Plain law: what the printed functions of octagons tell that the laws share. -/
set_option linter.unusedVariables false
set_option linter.unusedSimpArgs false
namespace Go.Proofs.Rcp
open Go.RowKit Go.Proofs.Rco Go.Proofs.Rcg Go.Proofs.Rcn Go.Proofs.YtcalcnfppnbooaaDoor.Z Go.Proofs.YtcalcnfppnbooaaDoorW.PrintWords Go.Proofs.YtcalcnfppnbooaaDoorW.PrintMore

theorem rdO_get {l : List OC} {i : Nat} (h : i < l.length) : rd_T146 l (i : Int) = l[i] := by simp [rd_T146, List.getD_eq_getElem?_getD, List.getElem?_eq_getElem h]
theorem ev_octOf {N : Int} {l : List RC} (hl : l.length ≤ 1000) : Ev (fun k => L2_octOf.f k N l) (N, oces (rels l)) := by
  have key : ∀ (n i : Nat), i + n = l.length → Ev (fun k => L2_octOf.l0 k (i : Int) N l N (oces (rels (l.take i)))) (N, oces (rels l)) := by
    intro n
    induction n with
    | zero =>
      intro i hin
      rw [List.take_of_length_le (by omega)]
      refine Ev.step (h := fun _ => some (N, oces (rels l))) (fun k => ?_) .some
      simp only [L2_octOf.l0]
      rw [if_neg (by omega)]
    | succ n ih =>
      intro i hin
      have hlt : i < l.length := by omega
      refine Ev.step (fun k => ?_) (ih (i + 1) (by omega))
      simp only [L2_octOf.l0]
      rw [if_pos (by omega), if_pos (by omega), if_pos (by rw [oces_length, rels_length, List.length_take]; omega), w64 (n := (i : Int) + 1) (by omega) (by omega), rdR_get hlt, List.take_succ_eq_append_getElem hlt]
      simp only [rels, oces, List.map_append, List.map_cons, List.map_nil]
      rfl
  have := key l.length 0 (by omega)
  simpa [rels, oces, L2_octOf.f] using this
theorem ev_octBack {N : Int} {l : List OC} (hl : l.length ≤ 1000) : Ev (fun k => L2_octBack.f k N l) (N, rces (ocels l)) := by
  have key : ∀ (n i : Nat), i + n = l.length → Ev (fun k => L2_octBack.l0 k (i : Int) N l N (rces (ocels (l.take i)))) (N, rces (ocels l)) := by
    intro n
    induction n with
    | zero =>
      intro i hin
      rw [List.take_of_length_le (by omega)]
      refine Ev.step (h := fun _ => some (N, rces (ocels l))) (fun k => ?_) .some
      simp only [L2_octBack.l0]
      rw [if_neg (by omega)]
    | succ n ih =>
      intro i hin
      have hlt : i < l.length := by omega
      refine Ev.step (fun k => ?_) (ih (i + 1) (by omega))
      simp only [L2_octBack.l0]
      rw [if_pos (by omega), if_pos (by omega), if_pos (by rw [rces_length, ocels_length, List.length_take]; omega), w64 (n := (i : Int) + 1) (by omega) (by omega), rdO_get hlt, List.take_succ_eq_append_getElem hlt]
      simp only [ocels, rces, List.map_append, List.map_cons, List.map_nil]
      rfl
  have := key l.length 0 (by omega)
  simpa [ocels, rces, L2_octBack.f] using this
theorem ev_isOct {N M : Int} {l : List OC} {m : List RC} (hl : l.length ≤ 1000) : Ev (fun k => L2_isOct.f k N l M m) (decide (N = M ∧ ocels l = rels m)) := by
  unfold L2_isOct.f
  refine .ite (fun he => ?_) (fun he => ?_)
  · refine .bind (ev_octBack hl) (.bind (ev_Same (by rw [rces_length, ocels_length]; exact hl)) ?_)
    rw [rels_rces, show decide (N = M ∧ ocels l = rels m) = decide (ocels l = rels m) from decide_eq_decide.2 ⟨fun q => q.2, fun q => ⟨he, q⟩⟩]
    exact .some
  · rw [decide_eq_false (fun q => he q.1)]
    exact .some
theorem ev_odd : Ev (fun k => L2_odd.f k) true := Ev.mono (k := 30) (fun k r h => L2_odd.mono k r h) (by kernel_rfl)
theorem rowO_of {N : Int} {L : List Cel} {n : Nat} (hn : N = n) (h : oErr N L = none) : n ≤ 4 ∧ RowO n L := by
  obtain ⟨m, hm, h8, hl, hb, hf, hc⟩ := oErr_none h
  obtain rfl : m = 2 * n := by omega
  refine ⟨by omega, hl, fun k hk => ?_, fun k => ?_, hc⟩
  · by_cases hlt : k < L.length
    · have := hb k hlt
      unfold bad at this
      rw [hk] at this
      simpa using this
    · rw [cg_out (by omega)]
  · by_cases hlt : k < L.length
    · have := hf k hlt
      unfold zfar at this
      have := of_decide_eq_false this
      omega
    · rw [cg_out (by omega)]
      simp
theorem nat_of {N : Int} {L : List Cel} (h : oErr N L = none) : ∃ n : Nat, N = n ∧ n ≤ 4 ∧ RowO n L ∧ (2 * N).toNat = 2 * n := by
  obtain ⟨m, hm, h8, _⟩ := oErr_none h
  obtain ⟨n, hn⟩ : ∃ n : Nat, N = n := ⟨N.toNat, by omega⟩
  have := rowO_of hn h
  exact ⟨n, hn, this.1, this.2, by omega⟩
theorem shutO_some {N : Int} {L C : List Cel} {n : Nat} (hn : N = n) (h : closeO (2 * n) L = some C) : shutO N L = (N, oces C, true) := by unfold shutO; rw [show (2 * N).toNat = 2 * n by omega, h]
theorem shutO_none {N : Int} {L : List Cel} {n : Nat} (hn : N = n) (h : closeO (2 * n) L = none) : shutO N L = (0, [], false) := by unfold shutO; rw [show (2 * N).toNat = 2 * n by omega, h]
end Go.Proofs.Rcp
