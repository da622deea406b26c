/- Plain law: what the printed functions of zones tell that the laws share. -/
import Derived.Test.YtjpboodkmhikpaaDoorZk
import Derived.Test.YtjpboodkmhikpaaDoorEv
import Derived.Test.YtjpboodkmhikpaaDoorZ3
import Derived.Test.YtjpboodkmhikpaaDoorZ5
import Derived.Test.YtjpboodkmhikpaaDoorZ4
import Derived.Test.YtjpboodkmhikpaaDoorZ4
import Derived.Test.YtjpboodkmhikpaaDoorZ4
import Derived.Test.YtjpboodkmhikpaaDoorZ3
set_option linter.unusedVariables false
set_option linter.unusedSimpArgs false
namespace Go.Proofs.Rcp
open Go.RowKit Go.Proofs.Rcg Go.Proofs.Rcn Go.Proofs.YtjpboodkmhikpaaDoor.Z Go.Proofs.YtjpboodkmhikpaaDoorW.PrintWords Go.Proofs.YtjpboodkmhikpaaDoorW.PrintMore

abbrev RC := S112
def rel (x : RC) : Cel := ⟨x.f0, x.f1⟩
def rce (c : Cel) : RC := ⟨c.has, c.most⟩
def rels (l : List RC) : List Cel := l.map rel
def rces (L : List Cel) : List RC := L.map rce
theorem rels_rces (L : List Cel) : rels (rces L) = L := by simp [rels, rces, Function.comp_def, rel, rce]
theorem rces_rels (l : List RC) : rces (rels l) = l := by simp [rels, rces, Function.comp_def, rel, rce]
theorem rels_length (l : List RC) : (rels l).length = l.length := by simp [rels]
theorem rces_length (L : List Cel) : (rces L).length = L.length := by simp [rces]
theorem cels_inj {a b : List ZC} (h : cels a = cels b) : a = b := by rw [← zces_cels a, h, zces_cels]
theorem w64 {n : Int} (h : -9223372036854775808 ≤ n) (h' : n ≤ 9223372036854775807) : wrap64 n = n := by unfold wrap64; omega
theorem rdR_get {l : List RC} {i : Nat} (h : i < l.length) : rd_T112 l (i : Int) = l[i] := by simp [rd_T112, List.getD_eq_getElem?_getD, List.getElem?_eq_getElem h]
theorem rdZ_get {l : List ZC} {i : Nat} (h : i < l.length) : rd_T42 l (i : Int) = l[i] := by simp [rd_T42, List.getD_eq_getElem?_getD, List.getElem?_eq_getElem h]
theorem rdZ_cg {L : List Cel} (i : Nat) : rd_T42 (zces L) (i : Int) = zce (cg L i) := by
  by_cases h : i < L.length
  · rw [rdZ_get (by rw [zces_length]; exact h)]
    simp [zces, cg, List.getD_eq_getElem?_getD, List.getElem?_eq_getElem h]
  · simp only [rd_T42, List.getD_eq_getElem?_getD, Int.toNat_natCast, cg]
    rw [List.getElem?_eq_none (by rw [zces_length]; omega), List.getElem?_eq_none (by omega)]
    rfl

theorem rels_inj {a b : List RC} : rels a = rels b ↔ a = b := ⟨fun h => by rw [← rces_rels a, h, rces_rels], fun h => by rw [h]⟩
theorem ev_zoneOf {N : Int} {l : List RC} (hl : l.length ≤ 1000) : Ev (fun k => L2_zoneOf.f k N l) (N, zces (rels l)) := by
  have key : ∀ (n i : Nat), i + n = l.length → Ev (fun k => L2_zoneOf.l0 k (i : Int) N l N (zces (rels (l.take i)))) (N, zces (rels l)) := by
    intro n
    induction n with
    | zero =>
      intro i hin
      rw [List.take_of_length_le (by omega)]
      refine Ev.step (h := fun _ => some (N, zces (rels l))) (fun k => ?_) .some
      simp only [L2_zoneOf.l0]
      rw [if_neg (by omega)]
    | succ n ih =>
      intro i hin
      have hlt : i < l.length := by omega
      refine Ev.step (fun k => ?_) (ih (i + 1) (by omega))
      simp only [L2_zoneOf.l0]
      rw [if_pos (by omega), if_pos (by omega), if_pos (by rw [zces_length, rels_length, List.length_take]; omega), w64 (n := (i : Int) + 1) (by omega) (by omega), rdR_get hlt, List.take_succ_eq_append_getElem hlt]
      simp only [rels, zces, List.map_append, List.map_cons, List.map_nil]
      rfl
  have := key l.length 0 (by omega)
  simpa [rels, zces, L2_zoneOf.f] using this
theorem ev_zoneBack {N : Int} {l : List ZC} (hl : l.length ≤ 1000) : Ev (fun k => L2_zoneBack.f k N l) (N, rces (cels l)) := by
  have key : ∀ (n i : Nat), i + n = l.length → Ev (fun k => L2_zoneBack.l0 k (i : Int) N l N (rces (cels (l.take i)))) (N, rces (cels l)) := by
    intro n
    induction n with
    | zero =>
      intro i hin
      rw [List.take_of_length_le (by omega)]
      refine Ev.step (h := fun _ => some (N, rces (cels l))) (fun k => ?_) .some
      simp only [L2_zoneBack.l0]
      rw [if_neg (by omega)]
    | succ n ih =>
      intro i hin
      have hlt : i < l.length := by omega
      refine Ev.step (fun k => ?_) (ih (i + 1) (by omega))
      simp only [L2_zoneBack.l0]
      rw [if_pos (by omega), if_pos (by omega), if_pos (by rw [rces_length, cels_length, List.length_take]; omega), w64 (n := (i : Int) + 1) (by omega) (by omega), rdZ_get hlt, List.take_succ_eq_append_getElem hlt]
      simp only [cels, rces, List.map_append, List.map_cons, List.map_nil]
      rfl
  have := key l.length 0 (by omega)
  simpa [cels, rces, L2_zoneBack.f] using this
theorem ev_Same {l m : List RC} (hl : l.length ≤ 1000) : Ev (fun k => R2_SameCells.f k l m) (decide (rels l = rels m)) := by
  unfold R2_SameCells.f
  refine .ite (fun he => ?_) (fun he => ?_)
  · have hlm : l.length = m.length := by omega
    have key : ∀ (n i : Nat), i + n = l.length → (∀ j (h : j < l.length) (h' : j < m.length), j < i → l[j] = m[j]) → Ev (fun k => R2_SameCells.l0 k l m (i : Int)) (decide (rels l = rels m)) := by
      intro n
      induction n with
      | zero =>
        intro i hin hp
        rw [decide_eq_true (rels_inj.2 (List.ext_getElem hlm fun j h h' => hp j h h' (by omega)))]
        refine Ev.step (h := fun _ => some true) (fun k => ?_) .some
        simp only [R2_SameCells.l0]
        rw [if_neg (by omega)]
      | succ n ih =>
        intro i hin hp
        have hlt : i < l.length := by omega
        have hlt' : i < m.length := by omega
        refine Ev.step (h := fun k => if (!((l[i].f0) == (m[i].f0)) || !((l[i].f1) == (m[i].f1))) = true then some false else R2_SameCells.l0 k l m ((i + 1 : Nat) : Int)) (fun k => ?_) (.ite (fun hc => ?_) (fun hc => ?_))
        · simp only [R2_SameCells.l0]
          rw [if_pos (by omega), if_pos (by omega), if_pos (by omega), w64 (n := (i : Int) + 1) (by omega) (by omega), rdR_get hlt, rdR_get hlt']
          rfl
        · rw [decide_eq_false]
          · exact .some
          · intro q
            obtain rfl := rels_inj.1 q
            simp at hc
        · refine ih (i + 1) (by omega) fun j h h' hj => ?_
          rcases Nat.lt_or_ge j i with hj' | hj'
          · exact hp j h h' hj'
          · obtain rfl : j = i := by omega
            simp only [Bool.or_eq_true, Bool.not_eq_true', beq_eq_false_iff_ne, ne_eq, not_or, Classical.not_not] at hc
            rcases hx : l[j] with ⟨a, b⟩
            rcases hy : m[j] with ⟨a', b'⟩
            rw [hx, hy] at hc
            simp only at hc
            rw [hc.1, hc.2]
    exact key l.length 0 (by omega) fun j h h' hj => absurd hj (by omega)
  · rw [decide_eq_false (fun q => he (by rw [rels_inj.1 q]))]
    exact .some
theorem ev_isZone {N M : Int} {l : List ZC} {m : List RC} (hl : l.length ≤ 1000) : Ev (fun k => L2_isZone.f k N l M m) (decide (N = M ∧ cels l = rels m)) := by
  unfold L2_isZone.f
  refine .ite (fun he => ?_) (fun he => ?_)
  · refine .bind (ev_zoneBack hl) (.bind (ev_Same (by rw [rces_length, cels_length]; exact hl)) ?_)
    rw [rels_rces, show decide (N = M ∧ cels l = rels m) = decide (cels l = rels m) from decide_eq_decide.2 ⟨fun q => q.2, fun q => ⟨he, q⟩⟩]
    exact .some
  · rw [decide_eq_false (fun q => he q.1)]
    exact .some
theorem ev_free : Ev (fun k => L2_free.f k) true := Ev.mono (k := 30) (fun k r h => L2_free.mono k r h) (by kernel_rfl)
def nearB (L : List Cel) : Bool := decide (L.length ≤ 100) && L.all fun c => decide (c.most ≤ 1048576 ∧ -1048576 ≤ c.most)
theorem far_n {n : Int} (hn : 0 ≤ n ∧ n ≤ 1152921504606846976) (a : Int) : R2_Far.f a n = some (decide (a > n ∨ a < -n)) := by
  unfold R2_Far.f
  rw [w64 (by omega) (by omega)]
  split
  · rename_i h; rw [decide_eq_true (.inl h)]
  · rename_i h
    congr 1
    exact decide_eq_decide.2 ⟨.inr, fun q => q.resolve_left h⟩
theorem ev_near (l : List RC) : Ev (fun k => L2_near.f k l) (nearB (rels l)) := by
  unfold L2_near.f nearB
  refine .ite (fun h => ?_) (fun h => ?_)
  · rw [decide_eq_true (by rw [rels_length]; omega), Bool.true_and]
    have key : ∀ (n i : Nat), i + n = l.length → Ev (fun k => R2_Near.l0 k l 1048576 (i : Int)) ((rels (l.drop i)).all fun c => decide (c.most ≤ 1048576 ∧ -1048576 ≤ c.most)) := by
      intro n
      induction n with
      | zero =>
        intro i hin
        rw [List.drop_eq_nil_of_le (by omega)]
        refine Ev.step (h := fun _ => some true) (fun k => ?_) .some
        simp only [R2_Near.l0]
        rw [if_neg (by omega)]
      | succ n ih =>
        intro i hin
        have hlt : i < l.length := by omega
        rw [List.drop_eq_getElem_cons hlt]
        refine Ev.step (h := fun k => (R2_Far.f l[i].f1 1048576).bind fun t144 => (if t144 = true then (some false) else (R2_Near.l0 k l 1048576 ((i + 1 : Nat) : Int)))) (fun k => ?_) ?_
        · simp only [R2_Near.l0]
          rw [if_pos (by omega), if_pos (by omega), w64 (n := (i : Int) + 1) (by omega) (by omega), rdR_get hlt]
          rfl
        · rw [far_n (by omega)]
          refine .bind .some (.ite (fun hc => ?_) (fun hc => ?_))
          · have hc' := of_decide_eq_true hc
            simp only [rels, List.map_cons, List.all_cons, rel]
            rw [decide_eq_false (by omega), Bool.false_and]
            exact .some
          · have hc' : ¬ (l[i].f1 > 1048576 ∨ l[i].f1 < -1048576) := fun q => hc (decide_eq_true q)
            have := ih (i + 1) (by omega)
            simp only [rels, List.map_cons, List.all_cons, rel] at this ⊢
            rw [decide_eq_true (by omega), Bool.true_and]
            exact this
    exact .bind (key l.length 0 (by omega)) .some
  · rw [decide_eq_false (by rw [rels_length]; omega), Bool.false_and]
    exact .some
theorem nearB_near {L : List Cel} (h : nearB L = true) : L.length ≤ 100 ∧ Near 1048576 L := by
  unfold nearB at h
  simp only [Bool.and_eq_true, decide_eq_true_eq, List.all_eq_true] at h
  refine ⟨h.1, fun k => ?_⟩
  by_cases hk : k < L.length
  · have := h.2 L[k] (List.getElem_mem hk)
    rw [show cg L k = L[k] by simp [cg, List.getD_eq_getElem?_getD, List.getElem?_eq_getElem hk]]
    omega
  · rw [cg_out (by omega)]
    simp
theorem close_err {N : Int} {L : List Cel} {e : Int} (h : zErr N L = some e) : zone_Close.f N (zces L) = some (0, [], false, some e) := by
  unfold zone_Close.f zone_Valid.f
  rw [cels_zces, h]
  rfl
theorem close_ok {N : Int} {L : List Cel} (h : zErr N L = none) : zone_Close.f N (zces L) = some ((shutZ N L).1, (shutZ N L).2.1, (shutZ N L).2.2, none) := by
  obtain ⟨n, hn, h1, h5, hl, _, _⟩ := zErr_none h
  unfold zone_Close.f zone_Valid.f
  rw [cels_zces, h]
  simp only [Option.bind_some, Option.isNone_none, if_true]
  unfold zone_Zone_close.f
  rw [if_pos, cels_zces]
  · rfl
  · refine ⟨by omega, by omega, ?_⟩
    rw [zces_length, hl, hn]
    exact_mod_cast rfl
theorem norm_of {N : Int} {L : List Cel} (h : zErr N L = none) : Norm L := by
  obtain ⟨n, hn, h1, h5, hl, hb, _⟩ := zErr_none h
  intro k hk
  by_cases hlt : k < L.length
  · have := hb k hlt
    unfold bad at this
    rw [hk] at this
    simpa using this
  · rw [cg_out (by omega)]
theorem shutZ_some {N : Int} {L C : List Cel} {n : Nat} (hn : N + 1 = n) (h : closeZ n L = some C) : shutZ N L = (N, zces C, true) := by unfold shutZ; rw [show (N + 1).toNat = n by omega, h]
theorem shutZ_none {N : Int} {L : List Cel} {n : Nat} (hn : N + 1 = n) (h : closeZ n L = none) : shutZ N L = (0, [], false) := by unfold shutZ; rw [show (N + 1).toNat = n by omega, h]
theorem idx64 {N : Int} {n p q : Nat} (hn : N + 1 = n) (h5 : n ≤ 16) (hp : p < n) (hq : q < n) : wrap64 ((wrap64 (((p : Nat) : Int) * (wrap64 (N + 1)))) + ((q : Nat) : Int)) = ((p * n + q : Nat) : Int) := by
  have h : p * n ≤ 16 * 16 := Nat.mul_le_mul (by omega) h5
  rw [w64 (n := N + 1) (by omega) (by omega), hn, show (((p : Nat) : Int) * (n : Int)) = ((p * n : Nat) : Int) by push_cast; rfl, w64 (n := ((p * n : Nat) : Int)) (by omega) (by omega), w64 (by omega) (by omega)]
  push_cast
  rfl
theorem sq64 {N : Int} {n : Nat} (hn : N + 1 = n) (h5 : n ≤ 16) : wrap64 ((wrap64 (N + 1)) * (wrap64 (N + 1))) = ((n * n : Nat) : Int) := by
  have h : n * n ≤ 16 * 16 := Nat.mul_le_mul h5 h5
  rw [w64 (n := N + 1) (by omega) (by omega), hn, show ((n : Int) * (n : Int)) = ((n * n : Nat) : Int) by push_cast; rfl, w64 (by omega) (by omega)]
theorem up64 {p : Nat} (hp : p ≤ 1000) : wrap64 (((p : Nat) : Int) + 1) = ((p + 1 : Nat) : Int) := by
  rw [w64 (by omega) (by omega)]; push_cast; rfl

theorem ix64 {n p q : Nat} (h5 : n ≤ 16) (hp : p < n) (hq : q < n) : wrap64 ((wrap64 (((p : Nat) : Int) * ((n : Nat) : Int))) + ((q : Nat) : Int)) = ((p * n + q : Nat) : Int) := by
  have h : p * n ≤ 16 * 16 := Nat.mul_le_mul (by omega) h5
  rw [show (((p : Nat) : Int) * (n : Int)) = ((p * n : Nat) : Int) by push_cast; rfl, w64 (n := ((p * n : Nat) : Int)) (by omega) (by omega), w64 (by omega) (by omega)]
  push_cast
  rfl
end Go.Proofs.Rcp
