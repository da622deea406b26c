import Derived.Test.YtcalcnfppnbooaaDoorOxZk
import Derived.Test.YtcalcnfppnbooaaDoorOxEv
import Derived.Test.YtcalcnfppnbooaaDoorOxZ3
import Derived.Test.YtcalcnfppnbooaaDoorOxZ5
import Derived.Test.YtcalcnfppnbooaaDoorOxZ4
/- Plain law: what the printed functions of zones tell that the laws share. -/
set_option linter.unusedVariables false
set_option linter.unusedSimpArgs false
namespace Go.Proofs.Rcp
open Go.RowKit Go.Proofs.Rcg Go.Proofs.Rcn Go.Proofs.YtcalcnfppnbooaaDoor.Z Go.Proofs.YtcalcnfppnbooaaDoorW.PrintWords Go.Proofs.YtcalcnfppnbooaaDoorW.PrintMore

abbrev RC := S67
def rel (x : RC) : Cel := ⟨x.f0, x.f1⟩
def rce (c : Cel) : RC := ⟨c.has, c.most⟩
def rels (l : List RC) : List Cel := l.map rel
def rces (L : List Cel) : List RC := L.map rce
theorem rels_rces (L : List Cel) : rels (rces L) = L := by simp [rels, rces, Function.comp_def, rel, rce]
theorem rces_rels (l : List RC) : rces (rels l) = l := by simp [rels, rces, Function.comp_def, rel, rce]
theorem rels_length (l : List RC) : (rels l).length = l.length := by simp [rels]
theorem rces_length (L : List Cel) : (rces L).length = L.length := by simp [rces]
theorem w64 {n : Int} (h : -9223372036854775808 ≤ n) (h' : n ≤ 9223372036854775807) : wrap64 n = n := by unfold wrap64; omega
theorem rdR_get {l : List RC} {i : Nat} (h : i < l.length) : rd_T67 l (i : Int) = l[i] := by simp [rd_T67, List.getD_eq_getElem?_getD, List.getElem?_eq_getElem h]
theorem rels_inj {a b : List RC} : rels a = rels b ↔ a = b := ⟨fun h => by rw [← rces_rels a, h, rces_rels], fun h => by rw [h]⟩
theorem ev_Same {l m : List RC} (hl : l.length ≤ 1000) : Ev (fun k => R2_SameCells.f k l m) (decide (rels l = rels m)) := by
  unfold R2_SameCells.f
  refine .ite (fun he => ?_) (fun he => ?_)
  · have hlm : l.length = m.length := by omega
    have key : ∀ (n i : Nat), i + n = l.length → (∀ j (h : j < l.length) (h' : j < m.length), j < i → l[j] = m[j]) → Ev (fun k => R2_SameCells.l0 k l m (i : Int)) (decide (rels l = rels m)) := by
      intro n
      induction n with
      | zero =>
        intro i hin hp
        rw [decide_eq_true (rels_inj.2 (List.ext_getElem hlm fun j h h' => hp j h h' (by omega)))]
        refine Ev.step (h := fun _ => some true) (fun k => ?_) .some
        simp only [R2_SameCells.l0]
        rw [if_neg (by omega)]
      | succ n ih =>
        intro i hin hp
        have hlt : i < l.length := by omega
        have hlt' : i < m.length := by omega
        refine Ev.step (h := fun k => if (!((l[i].f0) == (m[i].f0)) || !((l[i].f1) == (m[i].f1))) = true then some false else R2_SameCells.l0 k l m ((i + 1 : Nat) : Int)) (fun k => ?_) (.ite (fun hc => ?_) (fun hc => ?_))
        · simp only [R2_SameCells.l0]
          rw [if_pos (by omega), if_pos (by omega), if_pos (by omega), w64 (n := (i : Int) + 1) (by omega) (by omega), rdR_get hlt, rdR_get hlt']
          rfl
        · rw [decide_eq_false]
          · exact .some
          · intro q
            obtain rfl := rels_inj.1 q
            simp at hc
        · refine ih (i + 1) (by omega) fun j h h' hj => ?_
          rcases Nat.lt_or_ge j i with hj' | hj'
          · exact hp j h h' hj'
          · obtain rfl : j = i := by omega
            simp only [Bool.or_eq_true, Bool.not_eq_true', beq_eq_false_iff_ne, ne_eq, not_or, Classical.not_not] at hc
            rcases hx : l[j] with ⟨a, b⟩
            rcases hy : m[j] with ⟨a', b'⟩
            rw [hx, hy] at hc
            simp only at hc
            rw [hc.1, hc.2]
    exact key l.length 0 (by omega) fun j h h' hj => absurd hj (by omega)
  · rw [decide_eq_false (fun q => he (by rw [rels_inj.1 q]))]
    exact .some
def nearB (L : List Cel) : Bool := decide (L.length ≤ 100) && L.all fun c => decide (c.most ≤ 1048576 ∧ -1048576 ≤ c.most)
theorem far_n {n : Int} (hn : 0 ≤ n ∧ n ≤ 1152921504606846976) (a : Int) : R2_Far.f a n = some (decide (a > n ∨ a < -n)) := by
  unfold R2_Far.f
  rw [w64 (by omega) (by omega)]
  split
  · rename_i h; rw [decide_eq_true (.inl h)]
  · rename_i h
    congr 1
    exact decide_eq_decide.2 ⟨.inr, fun q => q.resolve_left h⟩
theorem ev_near (l : List RC) : Ev (fun k => L2_near.f k l) (nearB (rels l)) := by
  unfold L2_near.f nearB
  refine .ite (fun h => ?_) (fun h => ?_)
  · rw [decide_eq_true (by rw [rels_length]; omega), Bool.true_and]
    have key : ∀ (n i : Nat), i + n = l.length → Ev (fun k => R2_Near.l0 k l 1048576 (i : Int)) ((rels (l.drop i)).all fun c => decide (c.most ≤ 1048576 ∧ -1048576 ≤ c.most)) := by
      intro n
      induction n with
      | zero =>
        intro i hin
        rw [List.drop_eq_nil_of_le (by omega)]
        refine Ev.step (h := fun _ => some true) (fun k => ?_) .some
        simp only [R2_Near.l0]
        rw [if_neg (by omega)]
      | succ n ih =>
        intro i hin
        have hlt : i < l.length := by omega
        rw [List.drop_eq_getElem_cons hlt]
        refine Ev.step (h := fun k => (R2_Far.f l[i].f1 1048576).bind fun t144 => (if t144 = true then (some false) else (R2_Near.l0 k l 1048576 ((i + 1 : Nat) : Int)))) (fun k => ?_) ?_
        · simp only [R2_Near.l0]
          rw [if_pos (by omega), if_pos (by omega), w64 (n := (i : Int) + 1) (by omega) (by omega), rdR_get hlt]
          rfl
        · rw [far_n (by omega)]
          refine .bind .some (.ite (fun hc => ?_) (fun hc => ?_))
          · have hc' := of_decide_eq_true hc
            simp only [rels, List.map_cons, List.all_cons, rel]
            rw [decide_eq_false (by omega), Bool.false_and]
            exact .some
          · have hc' : ¬ (l[i].f1 > 1048576 ∨ l[i].f1 < -1048576) := fun q => hc (decide_eq_true q)
            have := ih (i + 1) (by omega)
            simp only [rels, List.map_cons, List.all_cons, rel] at this ⊢
            rw [decide_eq_true (by omega), Bool.true_and]
            exact this
    exact .bind (key l.length 0 (by omega)) .some
  · rw [decide_eq_false (by rw [rels_length]; omega), Bool.false_and]
    exact .some
theorem nearB_near {L : List Cel} (h : nearB L = true) : L.length ≤ 100 ∧ Near 1048576 L := by
  unfold nearB at h
  simp only [Bool.and_eq_true, decide_eq_true_eq, List.all_eq_true] at h
  refine ⟨h.1, fun k => ?_⟩
  by_cases hk : k < L.length
  · have := h.2 L[k] (List.getElem_mem hk)
    rw [show cg L k = L[k] by simp [cg, List.getD_eq_getElem?_getD, List.getElem?_eq_getElem hk]]
    omega
  · rw [cg_out (by omega)]
    simp
theorem up64 {p : Nat} (hp : p ≤ 1000) : wrap64 (((p : Nat) : Int) + 1) = ((p + 1 : Nat) : Int) := by
  rw [w64 (by omega) (by omega)]; push_cast; rfl

theorem ix64 {n p q : Nat} (h5 : n ≤ 16) (hp : p < n) (hq : q < n) : wrap64 ((wrap64 (((p : Nat) : Int) * ((n : Nat) : Int))) + ((q : Nat) : Int)) = ((p * n + q : Nat) : Int) := by
  have h : p * n ≤ 16 * 16 := Nat.mul_le_mul (by omega) h5
  rw [show (((p : Nat) : Int) * (n : Int)) = ((p * n : Nat) : Int) by push_cast; rfl, w64 (n := ((p * n : Nat) : Int)) (by omega) (by omega), w64 (by omega) (by omega)]
  push_cast
  rfl
end Go.Proofs.Rcp
