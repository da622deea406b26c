import Derived.Test.YtcalcnfppnbooaaDoorOxMem
import Derived.Test.YtcalcnfppnbooaaDoorOxWd
import Derived.Test.YtcalcnfppnbooaaDoorProg
import Derived.WalkKit
import Derived.WalkSpells
import Derived.WalkLawsBesides
import Derived.Outline
import Derived.Lib.Hide
import Derived.Deep.QuietTactic
import Derived.BigQuiet
import Derived.Deep.DeepCutAuto
import Derived.Deep.RegionHeld3
import Derived.Lib.SliceRun
import Derived.Deep.LoopGhost
import Derived.Deep.CutBlock
import Derived.Test.YtcalcnfppnbooaaDoorOxW
/- Package zone: rows of bounds that come in; least, at, clone, close, walked. -/
set_option linter.unusedVariables false
set_option linter.unusedSimpArgs false
namespace Go.Proofs.Rcn
open Go Go.RowKit
/-- A row of pairs (a bound and whether it is one) that is read. -/
def RCel (w : World) (A : Option Addr) (n : Nat) (L : List Cel) : Prop :=
  L.length = n ∧ (0 < n → ∃ g o, A = some ⟨g, o, none⟩ ∧ ∀ j, j < n → w.cell? ⟨g, o + j * 2, none⟩ = some (.bool (cg L j).has) ∧ w.cell? ⟨g, o + j * 2 + 1, none⟩ = some (.int .i64 (cg L j).most))
theorem RCel.below {w w1 : World} {A : Option Addr} {n : Nat} {L : List Cel} (h : RCel w A n L) (hb : Below w.heap.size w w1) : RCel w1 A n L :=
  ⟨h.1, fun hn => by
    obtain ⟨g, o, e, hc⟩ := h.2 hn
    exact ⟨g, o, e, fun j hj => ⟨cell_below hb (hc j hj).1, cell_below hb (hc j hj).2⟩⟩⟩
/-- A slice of whole numbers that is read. -/
def RInts (w : World) (A : Option Addr) (n : Nat) (xs : List Int) : Prop :=
  xs.length = n ∧ (0 < n → ∃ g o, A = some ⟨g, o, none⟩ ∧ ∀ j, j < n → w.cell? ⟨g, o + j, none⟩ = some (.int .i64 (xs.getD j 0)))
theorem RInts.below {w w1 : World} {A : Option Addr} {n : Nat} {xs : List Int} (h : RInts w A n xs) (hb : Below w.heap.size w w1) : RInts w1 A n xs :=
  ⟨h.1, fun hn => by
    obtain ⟨g, o, e, hc⟩ := h.2 hn
    exact ⟨g, o, e, fun j hj => cell_below hb (hc j hj)⟩⟩

theorem flat_addr {a : Addr} (h : a.spot = none) (i : Nat) : a.add i = ⟨a.block, a.off + i, none⟩ := by
  obtain ⟨b, o, s⟩ := a
  simp only at h
  subst h
  unfold Addr.add
  split
  · rename_i e; subst e; rfl
  · rfl

theorem cell_two (w : World) (p q i j : Nat) (u : Value) (h : ¬ (q = p ∧ j = i)) : (w.setCell ⟨p, i, none⟩ u).cell? ⟨q, j, none⟩ = w.cell? ⟨q, j, none⟩ :=
  World.cell?_setCell_other w ⟨p, i, none⟩ ⟨q, j, none⟩ u (fun e => h (by simp at e; exact ⟨e.1.symm, e.2.symm⟩))
theorem frozen_set (w : World) (a q : Addr) (u : Value) : (w.setCell a u).frozen? q = w.frozen? q := by
  simp only [World.frozen?, World.setCell, Array.getElem?_modify]
  by_cases h : a.block = q.block
  · simp only [h, if_true]
    cases hq : w.heap[q.block]? with
    | none => simp
    | some o => cases o <;> simp <;> rfl
  · simp [h]


end Go.Proofs.Rcn
set_option linter.unusedVariables false
set_option linter.unusedSimpArgs false
namespace Go.Proofs.Rcn
open Go Go.RowKit

theorem leastC_no {c : Cel} {h : Bool} {m : Int} (e : (h && (!c.has || decide (m < c.most))) = false) : leastC c h m = c := by simp [leastC, e]
theorem leastL_no {L : List Cel} {k : Nat} {h : Bool} {m : Int} (e : (h && (!(cg L k).has || decide (m < (cg L k).most))) = false) : leastL L k h m = L := by
  unfold leastL
  rw [leastC_no e]
  apply List.ext_getElem (by simp)
  intro i h1 h2
  rw [List.getElem_set]
  split
  · rename_i hi; subst hi; simp [cg, List.getD_eq_getElem?_getD, List.getElem?_eq_getElem h2]
  · rfl
theorem leastL_yes {L : List Cel} {k : Nat} {h : Bool} {m : Int} (e : (h && (!(cg L k).has || decide (m < (cg L k).most))) = true) : leastL L k h m = L.set k ⟨true, m⟩ := by
  unfold leastL leastC
  rw [if_pos e]

abbrev zC : TypeId := 120

/-! ### least, at -/
set_option maxHeartbeats 400000 in
theorem least_core (g o : Nat) (h a : Bool) (m x : Int) (w : World) (c0 : w.cell? ⟨g, o, none⟩ = some (.bool a)) (c1 : w.cell? ⟨g, o + 1, none⟩ = some (.int .i64 x))
    (f0 : w.frozen? ⟨g, o, none⟩ = false) (f1 : w.frozen? ⟨g, o + 1, none⟩ = false) :
    Calls Tryd.prog 114 #[.pointer (some ⟨g, o, none⟩), .bool h, .int .i64 m] w fun e w' => e = .returned (.tuple #[]) ∧
      w' = if (h && (!a || decide (m < x))) = true then (w.setCell ⟨g, o, none⟩ (.bool true)).setCell ⟨g, o + 1, none⟩ (.int .i64 m) else w := by
  cases h
  · go_enter Tryd.func114, Tryd.ntmps114
    go_wp2
    go_end0
    exact ⟨rfl, rfl⟩
  cases a
  · go_enter Tryd.func114, Tryd.ntmps114
    go_wp2
    go_end0
    exact ⟨rfl, rfl⟩
  by_cases hm : m < x
  · rw [decide_eq_true hm]
    go_enter Tryd.func114, Tryd.ntmps114
    go_wp2
    go_end0
    exact ⟨rfl, rfl⟩
  · rw [decide_eq_false hm]
    go_enter Tryd.func114, Tryd.ntmps114
    go_wp2
    go_end0
    exact ⟨rfl, rfl⟩

theorem least_any (g n cap k base : Nat) (L : List Cel) (h : Bool) (m : Int) (w : World) (hz : ZRow w base zC (.slice (some ⟨g, 0, none⟩) n cap) L) (hn : n = L.length) (hk : k < n) :
    Calls Tryd.prog 114 #[.pointer (some ⟨g, k * 2, none⟩), .bool h, .int .i64 m] w fun e w' => e = .returned (.tuple #[]) ∧ ZRow w' base zC (.slice (some ⟨g, 0, none⟩) n cap) (leastL L k h m) ∧ But g w w' := by
  refine (least_core g (k * 2) h _ m _ w (hz.at0 hn hk) (hz.at1 hn hk) (hz.free hn _) (hz.free hn _)).mono ?_
  rintro e w' ⟨rfl, rfl⟩
  refine ⟨rfl, ?_⟩
  split
  · rename_i e
    rw [leastL_yes e]
    exact ⟨hz.put hn k true m, ((But.refl g w).set _ _).set _ _⟩
  · rename_i e
    rw [leastL_no (by simpa using e)]
    exact ⟨hz, But.refl g w⟩

set_option maxHeartbeats 400000 in
theorem at_gen (n i j g o len cap : Nat) (N : Int) (w : World) (hN : N + 1 = n) (hn : n ≤ 16) (_hi : i ≤ 16) (hj : j ≤ 16) (hk : i * n + j < len) (hl : len ≤ 1000) :
    Calls Tryd.prog 85 #[.agg #[.int .i64 N, .slice (some ⟨g, o, none⟩) len cap], .int .i64 i, .int .i64 j] w fun e w' => e = .returned (.pointer (some ⟨g, o + (i * n + j) * 2, none⟩)) ∧ ∃ o, w' = w.alloc o := by
  obtain rfl : N = (n : Int) - 1 := by omega
  go_enter Tryd.func85, Tryd.ntmps85
  go_wp2
  go_ret
  exact ⟨rfl, _, rfl⟩
theorem at_any (n i j g len cap : Nat) (N : Int) (w : World) (hN : N + 1 = n) (hn : n ≤ 16) (hi : i ≤ 16) (hj : j ≤ 16) (hk : i * n + j < len) (hl : len ≤ 1000) :
    Calls Tryd.prog 85 #[.agg #[.int .i64 N, .slice (some ⟨g, 0, none⟩) len cap], .int .i64 i, .int .i64 j] w fun e w' => e = .returned (.pointer (some ⟨g, (i * n + j) * 2, none⟩)) ∧ ∃ o, w' = w.alloc o := by
  have := at_gen n i j g 0 len cap N w hN hn hi hj hk hl
  simpa using this

/-! ### a row is read; copied -/
theorem ZRow.rcel {w : World} {base n c : Nat} {e : TypeId} {A : Option Addr} {L : List Cel} (h : ZRow w base e (.slice A n c) L) : RCel w A n L ∧ n = L.length := by
  obtain ⟨A', c', hv⟩ := h.slice
  simp only [Value.slice.injEq] at hv
  obtain ⟨rfl, rfl, rfl⟩ := hv
  refine ⟨⟨rfl, fun hn => ?_⟩, rfl⟩
  obtain ⟨g, cap, hv, _⟩ := h.form hn
  simp only [Value.slice.injEq, true_and] at hv
  obtain ⟨rfl, rfl⟩ := hv
  exact ⟨g, 0, rfl, fun j hj => ⟨by rw [Nat.zero_add]; exact h.at0 rfl hj, by rw [Nat.zero_add]; exact h.at1 rfl hj⟩⟩

theorem rcel_cells {w : World} {A : Option Addr} {n : Nat} {L : List Cel} {a : Addr} (h : RCel w A n L) (e : A = some a) : ∀ j u, (cvs L)[j]? = some u → w.cell? (a.add j) = some u := by
  intro j u hu
  have hj : j < L.length * 2 := by
    have := (List.getElem?_eq_some_iff.1 hu).1
    rwa [cvs_length] at this
  have hl := h.1
  obtain ⟨g, o, e', hc⟩ := h.2 (by omega)
  obtain rfl : a = ⟨g, o, none⟩ := by rw [e] at e'; exact Option.some.inj e'
  rw [Addr.add_lit]
  have hq := hc (j / 2) (by omega)
  rcases Nat.mod_two_eq_zero_or_one j with hm | hm
  · have ej : j = j / 2 * 2 := by omega
    rw [ej] at hu ⊢
    rw [cvs_at0 L _ (by omega)] at hu
    rw [hq.1, hu]
  · have ej : j = j / 2 * 2 + 1 := by omega
    rw [ej] at hu ⊢
    rw [cvs_at1 L _ (by omega)] at hu
    rw [← Nat.add_assoc, hq.2, hu]

theorem info_zC : (Tryd.prog.info? zC).map (fun i => (i.zero, i.size, i.bytes)) = some (some (.agg #[.bool false, .int .i64 0]), 2, 16) := by kernel_rfl

set_option maxRecDepth 100000 in
set_option maxHeartbeats 400000 in
theorem sclone_any (A : Option Addr) (n c : Nat) (L : List Cel) (w : World) (hz : RCel w A n L) (hl : n ≤ 1000) :
    Calls Tryd.prog 133 #[.slice A n c] w fun e w' => ∃ A' c', e = .returned (.slice A' n c') ∧ ZRow w' w.heap.size zC (.slice A' n c') L ∧ Below w.heap.size w w' := by
  obtain ⟨i0, hi, hz0, hz1, hz2⟩ := info_parts info_zC
  have hlen := hz.1
  have ke := fun (W : World) (A : Option Addr) (n c : Nat) => Lib.run_eql_slice_nil (P := Tryd.prog) W 28 120 A n c 0 0 Tryd.underlying28
  cases A with
  | none =>
    have h0 : n = 0 := by
      rcases Nat.eq_zero_or_pos n with h | h
      · exact h
      · obtain ⟨g, o, e, _⟩ := hz.2 h
        cases e
    subst h0
    obtain rfl : L = [] := List.eq_nil_of_length_eq_zero hlen
    clear hz
    go_enter Tryd.func133, Tryd.ntmps133
    go_wp2
    go_ret
    exact ⟨none, 0, rfl, World.ownsRow_nil _ _ _ _, Below.refl _ _⟩
  | some a =>
    have HC := Lib.hid (rcel_cells (hz.below (below_alloc (Below.refl _ _) (.cells #[] 120))) rfl)
    clear hz
    go_enter Tryd.func133, Tryd.ntmps133
    go_wp2_with (at_builtin; refine wpList_append_own _ rfl (.tmp 5) (.tmp 6) 28 rfl w.heap.size zC i0 (.agg #[.bool false, .int .i64 0]) 2 16 Tryd.underlying28 hi hz0 hz1 hz2 rfl (by decide) (.slice (some ⟨w.heap.size, 0, none⟩) 0 0) 0 [] rfl (World.ownsRow_made w #[] 0 (Nat.le_refl _) (by simp [maxLen]) rfl) a n c (cvs L) rfl (by rw [cvs_length, hlen]) ?c1 (cvs_one L) ?c2 ?c3 ?c4 ?_)
    case c1 => exact HC.out
    case c2 => simp only [maxLen]; omega
    case c3 => omega
    case c4 => simp
    intro v' w1 hown hg hnil
    have hb1 : Below w.heap.size w w1 := ((Below.refl _ _).alloc (Nat.le_refl _) _).grown hg (by simp) (by simp [Value.ownBlock])
    have hz1 : ZRow w1 w.heap.size zC v' L := by
      rw [ZRow, hlen]
      simpa using hown
    obtain ⟨A', c', rfl⟩ := hz1.slice
    rw [hlen] at hz1
    have HO := Lib.hid hz1
    have HB := Lib.hid hb1
    clear hown hz1 hb1 hg hnil
    go_wp2
    go_ret
    exact ⟨A', c', by simp [hlen], HO.out, HB.out⟩

set_option maxRecDepth 100000 in
set_option maxHeartbeats 400000 in
theorem clone_any (A : Option Addr) (n c : Nat) (N : Int) (L : List Cel) (w : World) (hz : RCel w A n L) (hl : n ≤ 1000) :
    Calls Tryd.prog 102 #[.agg #[.int .i64 N, .slice A n c]] w fun e w' => ∃ A' c', e = .returned (.agg #[.int .i64 N, .slice A' n c']) ∧ ZRow w' w.heap.size zC (.slice A' n c') L ∧ Below w.heap.size w w' := by
  have HZ := Lib.hid hz
  clear hz
  go_enter Tryd.func102, Tryd.ntmps102
  go_wp2
  go_region_held3 (fun w' => w'.cell? ⟨w.heap.size, 0, none⟩ = some (.int .i64 N) ∧ w'.cell? ⟨w.heap.size, 1, none⟩ = some (.slice A n c))
    (first | go_keep | exact ⟨(hb.cell (p := ⟨w.heap.size, 0, none⟩) (by simp <;> omega)).trans (by go_simp), (hb.cell (p := ⟨w.heap.size, 1, none⟩) (by simp <;> omega)).trans (by go_simp)⟩)
    ((go_at_call 133; refine (sclone_any A n c L _ (HZ.out.below (by repeat (first | exact Below.refl _ _ | refine below_alloc ?_ _ | refine below_drew ?_))) hl).mono ?_; rintro e w1 ⟨A1, c1, rfl, hr, hb⟩; have q0 := hb.cell (p := ⟨w.heap.size + 1, 0, none⟩) (by simp <;> omega); have q1 := hb.cell (p := ⟨w.heap.size + 1, 1, none⟩) (by simp <;> omega); have q2 := hb.frozen (p := ⟨w.heap.size + 1, 0, none⟩) (by simp <;> omega); have q3 := hb.frozen (p := ⟨w.heap.size + 1, 1, none⟩) (by simp <;> omega); have q4 : w.heap.size + 1 < w1.heap.size := (by have := hb.size; simp at this; omega)))
  go_wp2
  refine bodyPost_ret (v := .agg #[.int .i64 N, .slice A1 n c1]) (by simp [results, Tryd.results102, go_sem, q0, q1, q4]) rfl ⟨A1, c1, rfl, ?_, ?_⟩
  · have h1 := ownsRow_setCell_below hr.out (a := ⟨w.heap.size + 1, 0, none⟩) (by simp <;> omega) (.int .i64 N)
    have h2 := ownsRow_setCell_below h1 (a := ⟨w.heap.size + 1, 1, none⟩) (by simp <;> omega) (.slice A1 n c1)
    exact ZRow.low h2 (by simp <;> omega)
  · exact (((((Below.refl _ _).alloc (Nat.le_refl _) _).alloc (by simp) _).drew.trans (hb.mono (by simp <;> omega))).setCell (by simp <;> omega) _).setCell (by simp <;> omega) _
end Go.Proofs.Rcn

set_option linter.unusedVariables false
set_option linter.unusedSimpArgs false
namespace Go.Proofs.Rcn
open Go Go.RowKit
open Go.Proofs.YtcalcnfppnbooaaDoorW.PrintLast (start_ pure_ take_ one_ last_ norm_ done_ goes_ value_ skip_ i64_w i32_w)

/-- What stands while a zone is closed: the box with the zone, the answer's block, the row. -/
structure CW (w : World) (N : Int) (g len c : Nat) (L : List Cel) (wr : World) : Prop where
  below : Below w.heap.size w wr
  lo : w.heap.size + 1 < wr.heap.size
  b0 : wr.cell? ⟨w.heap.size, 0, none⟩ = some (.int .i64 N)
  b1 : wr.cell? ⟨w.heap.size, 1, none⟩ = some (.slice (some ⟨g, 0, none⟩) len c)
  r0 : wr.cell? ⟨w.heap.size + 1, 0, none⟩ = some (.int .i64 0)
  r1 : wr.cell? ⟨w.heap.size + 1, 1, none⟩ = some (.slice none 0 0)
  f0 : wr.frozen? ⟨w.heap.size + 1, 0, none⟩ = false
  f1 : wr.frozen? ⟨w.heap.size + 1, 1, none⟩ = false
  row : ZRow wr w.heap.size zC (.slice (some ⟨g, 0, none⟩) len c) L
  ln : len = L.length
  gl : w.heap.size + 1 < g
  gh : g < wr.heap.size
theorem CW.next {w W w1 : World} {N : Int} {g len c : Nat} {L : List Cel} (h : CW w N g len c L W) (hb : Below W.heap.size W w1) : CW w N g len c L w1 :=
  ⟨below_then h.below hb, Nat.lt_of_lt_of_le h.lo hb.size, cell_below hb h.b0, cell_below hb h.b1, cell_below hb h.r0, cell_below hb h.r1,
    ((bcell hb).2 _ _ h.lo).trans h.f0, ((bcell hb).2 _ _ h.lo).trans h.f1, h.row.below hb, h.ln, h.gl, Nat.lt_of_lt_of_le h.gh hb.size⟩
theorem CW.drew {w W : World} {N : Int} {g len c : Nat} {L : List Cel} (h : CW w N g len c L W) : CW w N g len c L W.drew := h.next (below_drew (Below.refl _ _))
theorem CW.alloc {w W : World} {N : Int} {g len c : Nat} {L : List Cel} (h : CW w N g len c L W) (o : Obj) : CW w N g len c L (W.alloc o) := h.next (below_alloc (Below.refl _ _) o)
theorem But.frozen {g : Nat} {w w' : World} (h : But g w w') {b : Nat} (hb : b < w.heap.size) (hg : b ≠ g) (i : Nat) : w'.frozen? ⟨b, i, none⟩ = w.frozen? ⟨b, i, none⟩ := by
  have := h.block b hb (by simpa using hg)
  simp only [World.frozen?, this]
theorem CW.turn {w W w1 : World} {N : Int} {g len c : Nat} {L M : List Cel} (h : CW w N g len c L W) (hb : But g W w1) (hz : ZRow w1 w.heap.size zC (.slice (some ⟨g, 0, none⟩) len c) M) (hl : M.length = L.length) : CW w N g len c M w1 :=
  have q := h.gl
  ⟨hb.below h.below (by have := h.lo; omega) (by omega), Nat.lt_of_lt_of_le h.lo hb.size, hb.cell h.b0 (by simp; omega), hb.cell h.b1 (by simp; omega), hb.cell h.r0 (by simp; omega), hb.cell h.r1 (by simp; omega),
    (hb.frozen h.lo (by omega) _).trans h.f0, (hb.frozen h.lo (by omega) _).trans h.f1, hz, h.ln.trans hl.symm, h.gl, Nat.lt_of_lt_of_le h.gh hb.size⟩
theorem ZRow.set {w : World} {base g n c : Nat} {e : TypeId} {L : List Cel} (h : ZRow w base e (.slice (some ⟨g, 0, none⟩) n c) L) {b : Nat} (hb : b ≠ g) (i : Nat) (u : Value) : ZRow (w.setCell ⟨b, i, none⟩ u) base e (.slice (some ⟨g, 0, none⟩) n c) L :=
  World.ownsRow.kept (row := some b) h.out ((But.refl b w).set i u) (by simp [Value.ownBlock]; omega)
theorem CW.set {w W : World} {N : Int} {g len c : Nat} {L : List Cel} (h : CW w N g len c L W) {b : Nat} (hb : w.heap.size + 1 < b) (hg : b ≠ g) (i : Nat) (u : Value) : CW w N g len c L (W.setCell ⟨b, i, none⟩ u) :=
  ⟨below_set h.below (by simp; omega) _, by simpa using h.lo, (cell_two _ _ _ _ _ _ (by omega)).trans h.b0, (cell_two _ _ _ _ _ _ (by omega)).trans h.b1, (cell_two _ _ _ _ _ _ (by omega)).trans h.r0, (cell_two _ _ _ _ _ _ (by omega)).trans h.r1,
    (frozen_set ..).trans h.f0, (frozen_set ..).trans h.f1, h.row.set hg i u, h.ln, h.gl, by simpa using h.gh⟩
/-- A block with a bound. -/
def Cells2 (w : World) (p : Nat) (o : Cel) : Prop := w.cell? ⟨p, 0, none⟩ = some (.bool o.has) ∧ w.cell? ⟨p, 1, none⟩ = some (.int .i64 o.most)
/-- .. and what the loads of one round meet. -/
abbrev S17 (w : World) (N : Int) (g len c : Nat) (L : List Cel) (x y : Nat) (W : World) : Prop :=
  CW w N g len c L W ∧ (W.cell? ⟨w.heap.size, 0, none⟩ = some (.int .i64 N) ∧ W.cell? ⟨w.heap.size, 1, none⟩ = some (.slice (some ⟨g, 0, none⟩) len c)) ∧
    (W.cell? ⟨g, x * 2, none⟩ = some (.bool (cg L x).has) ∧ W.cell? ⟨g, x * 2 + 1, none⟩ = some (.int .i64 (cg L x).most)) ∧ (W.cell? ⟨g, y * 2, none⟩ = some (.bool (cg L y).has) ∧ W.cell? ⟨g, y * 2 + 1, none⟩ = some (.int .i64 (cg L y).most))
abbrev S18 (w : World) (N : Int) (g len c pa pb : Nat) (xh : Bool) (xm : Int) (yh : Bool) (ym : Int) (W : World) : Prop :=
  (W.cell? ⟨w.heap.size, 0, none⟩ = some (.int .i64 N) ∧ W.cell? ⟨w.heap.size, 1, none⟩ = some (.slice (some ⟨g, 0, none⟩) len c)) ∧
    (W.cell? ⟨pa, 0, none⟩ = some (.bool xh) ∧ W.cell? ⟨pa, 1, none⟩ = some (.int .i64 xm)) ∧ (W.cell? ⟨pb, 0, none⟩ = some (.bool yh) ∧ W.cell? ⟨pb, 1, none⟩ = some (.int .i64 ym))
theorem Cells2.alloc {W : World} {p : Nat} {x : Cel} (h : Cells2 W p x) (o : Obj) : Cells2 (W.alloc o) p x := ⟨cell_below (below_alloc (Below.refl _ _) o) h.1, cell_below (below_alloc (Below.refl _ _) o) h.2⟩
theorem S18.least {w W w1 : World} {N : Int} {g len c pa pb : Nat} {xh : Bool} {xm : Int} {yh : Bool} {ym : Int} {M : List Cel} (h : S18 w N g len c pa pb xh xm yh ym W) (hm : CW w N g len c M w1) (hb : But g W w1) (hpa : pa ≠ g) (hpb : pb ≠ g) : S18 w N g len c pa pb xh xm yh ym w1 :=
  ⟨⟨hm.b0, hm.b1⟩, ⟨hb.cell h.2.1.1 hpa, hb.cell h.2.1.2 hpa⟩, hb.cell h.2.2.1 hpb, hb.cell h.2.2.2 hpb⟩
theorem CW.s17 {w W : World} {N : Int} {g len c : Nat} {L : List Cel} {x y : Nat} (h : CW w N g len c L W) (hx : x < len) (hy : y < len) : S17 w N g len c L x y W :=
  ⟨h, ⟨h.b0, h.b1⟩, ⟨h.row.at0 h.ln hx, h.row.at1 h.ln hx⟩, h.row.at0 h.ln hy, h.row.at1 h.ln hy⟩
theorem CW.least {w W : World} {N : Int} {g len c : Nat} {L : List Cel} (h : CW w N g len c L W) (k : Nat) (hk : k < len) (b : Bool) (m : Int) :
    Calls Tryd.prog 114 #[.pointer (some ⟨g, k * 2, none⟩), .bool b, .int .i64 m] W fun e w' => e = .returned (.tuple #[]) ∧ CW w N g len c (leastL L k b m) w' ∧ But g W w' :=
  (least_any g len c k w.heap.size L b m W h.row h.ln hk).mono fun e w' q => ⟨q.1, h.turn q.2.2 q.2.1 (leastL_length ..), q.2.2⟩
theorem at_easy {N : Int} {g len c : Nat} {W : World} (n i j : Nat) (hN : N + 1 = n) (hn : n ≤ 16) (hl : len = n * n) (hi : i < n) (hj : j < n) :
    Calls Tryd.prog 85 #[.agg #[.int .i64 N, .slice (some ⟨g, 0, none⟩) len c], .int .i64 i, .int .i64 j] W fun e w' => e = .returned (.pointer (some ⟨g, (i * n + j) * 2, none⟩)) ∧ ∃ o, w' = W.alloc o :=
  at_any n i j g len c N W hN hn (by omega) (by omega) (by rw [hl]; exact idx_lt hi hj) (by have := Nat.mul_le_mul hn hn; omega)
theorem CW.at {w W : World} {N : Int} {g len c : Nat} {L : List Cel} (h : CW w N g len c L W) (n i j : Nat) (hN : N + 1 = n) (hn : n ≤ 16) (hl : len = n * n) (hi : i < n) (hj : j < n) :
    Calls Tryd.prog 85 #[.agg #[.int .i64 N, .slice (some ⟨g, 0, none⟩) len c], .int .i64 i, .int .i64 j] W fun e w' => e = .returned (.pointer (some ⟨g, (i * n + j) * 2, none⟩)) ∧ ∃ o, w' = W.alloc o :=
  at_any n i j g len c N W hN hn (by omega) (by omega) (by rw [hl]; exact idx_lt hi hj) (by have := Nat.mul_le_mul hn hn; omega)

/-- One cell clipped. -/
def clipAt (L : List Cel) (i : Nat) : List Cel := L.set i (clipC (cg L i))
theorem clipAt_length (L : List Cel) (i : Nat) : (clipAt L i).length = L.length := by simp [clipAt]
theorem set_self (L : List Cel) (k : Nat) : L.set k (cg L k) = L := by
  apply List.ext_getElem (by simp)
  intro i h1 h2
  rw [List.getElem_set]
  split
  · rename_i hi; subst hi; simp [cg, List.getD_eq_getElem?_getD, List.getElem?_eq_getElem h2]
  · rfl
theorem rep_clip (L : List Cel) (k : Nat) (hk : k ≤ L.length) : rep clipAt k L = (L.take k).map clipC ++ L.drop k := by
  induction k with
  | zero => simp [rep]
  | succ k ih =>
    have hlt : k < L.length := by omega
    rw [rep_succ, ih (by omega), clipAt]
    have hc : cg ((L.take k).map clipC ++ L.drop k) k = L[k] := by
      simp [cg, List.getD_eq_getElem?_getD, List.getElem?_append, Nat.min_eq_left (Nat.le_of_lt hlt), List.getElem?_drop, List.getElem?_eq_getElem hlt]
    rw [hc, List.take_succ_eq_append_getElem hlt, List.map_append, List.append_assoc]
    rw [List.set_append_right _ _ (by simp; omega)]
    congr 1
    rw [List.drop_eq_getElem_cons hlt]
    simp [Nat.min_eq_left (Nat.le_of_lt hlt)]
    rw [List.drop_eq_getElem_cons hlt]
    rfl
theorem rep_clip_all (L : List Cel) : rep clipAt L.length L = L.map clipC := by rw [rep_clip L _ (Nat.le_refl _)]; simp
theorem rep_clip_at (L : List Cel) {k : Nat} (hk : k < L.length) : cg (rep clipAt k L) k = cg L k := by
  rw [rep_clip L k (by omega)]
  simp [cg, List.getD_eq_getElem?_getD, List.getElem?_append, Nat.min_eq_left (Nat.le_of_lt hk), List.getElem?_drop]
theorem cvs_set1 : ∀ (L : List Cel) (k : Nat) (m : Int), (cvs L).set (k * 2 + 1) (.int .i64 m) = cvs (L.set k ⟨(cg L k).has, m⟩)
  | [], k, m => rfl
  | c :: L, 0, m => rfl
  | c :: L, k + 1, m => by
    rw [cvs_cons, show (k + 1) * 2 + 1 = k * 2 + 1 + 1 + 1 by omega]
    simp only [List.set_cons_succ]
    rw [cvs_set1 L k m]
    rfl
theorem ZRow.put1 {w : World} {base g n cap : Nat} {e : TypeId} {L : List Cel} (h : ZRow w base e (.slice (some ⟨g, 0, none⟩) n cap) L) (hn : n = L.length) (k : Nat) (m : Int) :
    ZRow (w.setCell ⟨g, k * 2 + 1, none⟩ (.int .i64 m)) base e (.slice (some ⟨g, 0, none⟩) n cap) (L.set k ⟨(cg L k).has, m⟩) := by
  subst hn
  have h1 := (World.ownsRow.stored h.out (k * 2 + 1) (.int .i64 m)).1
  unfold ZRow
  rw [List.length_set, ← cvs_set1]
  exact h1

/-- What closing tells: nothing, or a row of its own that is closed. -/
def ZPost (n : Nat) (N : Int) (len : Nat) (w : World) (C : Option (List Cel)) (e : Ending) (w' : World) : Prop :=
  match C with
  | none => e = .returned (.tuple #[.agg #[.int .i64 0, .slice none 0 0], .bool false])
  | some C => ∃ A' c', e = .returned (.tuple #[.agg #[.int .i64 N, .slice A' len c'], .bool true]) ∧ ZRow w' w.heap.size zC (.slice A' len c') C

set_option maxRecDepth 100000 in
set_option maxHeartbeats 4000000 in
theorem close_any (A : Option Addr) (n len c : Nat) (N : Int) (L : List Cel) (w : World) (hN : N + 1 = n) (hn1 : 1 ≤ n) (hn : n ≤ 5) (hl : len = n * n) (hz : RCel w A len L) :
    Calls Tryd.prog 82 #[.agg #[.int .i64 N, .slice A len c]] w fun e w' => Below w.heap.size w w' ∧ ZPost n N len w (closeZ n L) e w' := by
  have hm : 1 ≤ len ∧ len ≤ 25 := by rw [hl]; exact ⟨Nat.mul_le_mul hn1 hn1, Nat.mul_le_mul hn hn⟩
  have hn0 : -1 ≤ N ∧ N ≤ 1000 := by omega
  have HZ := Lib.hid hz
  have HL := Lib.hid hz.1
  have HN := Lib.hid hN
  have Hl := Lib.hid hl
  clear hz hN hl
  go_enter Tryd.func82, Tryd.ntmps82
  go_upto_region 1 with fail
  go_cut [] (fun wc => ∃ g c1, CW w N g len c1 L wc)
  case first =>
    go_wp2_with fail
    refine (clone_any A len c _ L _ (HZ.out.below (below_alloc (below_alloc (Below.refl _ _) _) _)) (by omega)).mono ?_
    rintro e w1 ⟨A1, c1, rfl, hr, hb⟩
    obtain ⟨hc1, hf1⟩ := bcell hb
    have hz1 : w.heap.size + 1 < w1.heap.size := by have := hb.size; simp at this; omega
    have hz0 : w.heap.size < w1.heap.size := by omega
    obtain ⟨g, cap, hv, hg1, hg2⟩ := hr.form (by rw [HL.out]; omega)
    simp only [Value.slice.injEq] at hv
    obtain ⟨rfl, -, rfl⟩ := hv
    simp at hg1
    have hB := Lib.hid (below_then (below_alloc (below_alloc (Below.refl _ _) _) _) hb)
    have H1 := Lib.hid (ownsRow_setCell_below (ownsRow_setCell_below hr.out (a := ⟨w.heap.size, 0, none⟩) (by simp <;> omega) (.int .i64 N)) (a := ⟨w.heap.size, 1, none⟩) (by simp <;> omega) (.slice (some ⟨g, 0, none⟩) len c1))
    have k0 : w1.cell? ⟨w.heap.size, 0, none⟩ = some (.int .i64 N) := by simp [go_sem, hc1]
    have k1 : w1.cell? ⟨w.heap.size, 1, none⟩ = some (.slice A len c) := by simp [go_sem, hc1]
    clear hb hr
    go_wp2
    go_meet
    refine ⟨g, c1, below_set (below_set hB.out (Nat.le_refl _) _) (Nat.le_refl _) _, by simpa using hz1, ?_, ?_, ?_, ?_, ?_, ?_, ZRow.low H1.out (by simp <;> omega), HL.out.symm, by omega, by simpa using hg2⟩
    · exact (cell_two _ _ _ _ _ _ (by omega)).trans (World.cell?_setCell_same' _ _ _ (by rw [k0]; rfl))
    · exact World.cell?_setCell_same' _ _ _ (by rw [cell_two _ _ _ _ _ _ (by omega), k1]; rfl)
    all_goals simp [go_sem, hc1, hf1, frozen_set]
  case rest =>
    obtain ⟨g, c1, H0⟩ := hcut
    have hd : ∀ k, (rep (closeD n) k L).length = L.length := fun k => rep_length (closeD_length n) k L
    -- the ways from each to itself
    have g0 := H0.b0
    have hN := HN.out
    go_upto_region 3 with fail
    go_upto_block 0 with fail
    go_cut [] (fun wc => Hid (CW w N g len c1 (diag n L) wc))
    case first =>
      go_wp2
      go_loopw [20] (fun i wr => ∃ k : Nat, k ≤ n ∧ i = .int .i64 k ∧ Hid (CW w N g len c1 (rep (closeD n) k L) wr)) (fun i _ => n - (intOf i).toNat)
      case atStart => exact ⟨0, Nat.zero_le _, rfl, H0⟩
      case round =>
        obtain ⟨k, hk, rfl, HW⟩ := hrel
        by_cases hlt : k < n
        · have b0 := HW.out.b0
          have b1 := HW.out.b1
          go_wp2_with fail
          refine (HW.out.at n k k HN.out (by omega) Hl.out hlt hlt).mono ?_
          rintro e w1 ⟨rfl, o, rfl⟩
          go_wp2_with fail
          refine ((HW.out.alloc o).least (k * n + k) (by rw [Hl.out]; exact idx_lt hlt hlt) _ _).mono ?_
          rintro e w2 ⟨rfl, h2, -⟩
          have H2 := Lib.hid h2
          clear h2
          go_wp2
          exact ⟨⟨k + 1, by omega, by go_num, H2⟩, by simp [intOf]; omega⟩
        · obtain rfl : k = n := by omega
          go_wp2
          go_meet
          exact HW
    case rest =>
      have HD := Lib.hid (hd n)
      clear H0 hd g0
      go_upto_region 8 with fail
      go_upto_block 2 with fail
      go_cut [] (fun wc => Hid (CW w N g len c1 (preClose n L) wc))
      case first =>
        go_wp2
        go_loopw [30] (fun i wr => ∃ k : Nat, k ≤ n ∧ i = .int .i64 k ∧ Hid (CW w N g len c1 (rep (closeK n) k (diag n L)) wr)) (fun i _ => n - (intOf i).toNat)
        case atStart => exact ⟨0, Nat.zero_le _, rfl, hcut⟩
        case round =>
          obtain ⟨k, hk, rfl, HW⟩ := hrel
          by_cases hlt : k < n
          case neg =>
            obtain rfl : k = n := by omega
            go_wp2
            go_meet
            exact HW
          have HK : Hid (rep (closeK n) (k + 1) (diag n L) = rep (closeI n k) n (rep (closeK n) k (diag n L))) := rfl
          generalize rep (closeK n) k (diag n L) = LK at HW HK
          obtain ⟨wo, rfl⟩ : ∃ wo : World, wo = wr := ⟨_, rfl⟩
          clear hcut
          go_wp2
          go_loopw [34] (fun i wr => ∃ k2 : Nat, k2 ≤ n ∧ i = .int .i64 k2 ∧ Hid (CW w N g len c1 (rep (closeI n k) k2 LK) wr)) (fun i _ => n - (intOf i).toNat)
          case atStart => exact ⟨0, Nat.zero_le _, rfl, HW⟩
          case round =>
            obtain ⟨i, hi, rfl, HV⟩ := hrel
            by_cases hlt2 : i < n
            case neg =>
              obtain rfl : i = n := by omega
              go_wp2
              exact ⟨⟨k + 1, by omega, by go_num, by show CW _ _ _ _ _ _ _; rw [HK.out]; exact HV.out⟩, by simp [intOf]; omega⟩
            have HI : Hid (rep (closeI n k) (i + 1) LK = rep (closeJ n k i) n (rep (closeI n k) i LK)) := rfl
            generalize rep (closeI n k) i LK = LI at HV HI
            obtain ⟨wp, rfl⟩ : ∃ wp : World, wp = wr := ⟨_, rfl⟩
            clear HW
            go_wp2
            go_loopg [9, 10, 38] (n + 1) (fun gk p9 p10 i2 wr => ∃ k3 : Nat, k3 ≤ n ∧ n + 1 = k3 + gk ∧ i2 = .int .i64 k3 ∧ Hid (CW w N g len c1 (rep (closeJ n k i) k3 LI) wr))
            case atStart => exact ⟨0, Nat.zero_le _, by omega, rfl, HV⟩
            case round =>
              obtain ⟨j, hj, hgk, rfl, HU⟩ := hrel
              by_cases hlt3 : j < n
              case neg =>
                obtain rfl : j = n := by omega
                go_wp2
                exact ⟨⟨i + 1, by omega, by go_num, by show CW _ _ _ _ _ _ _; rw [HI.out]; exact HU.out⟩, by simp [intOf]; omega⟩
              have HJ : Hid (rep (closeJ n k i) (j + 1) LI = closeJ n k i (rep (closeJ n k i) j LI) j) := rfl
              generalize rep (closeJ n k i) j LI = LJ at HU HJ
              clear HV
              have hx1 : i * n + k < len := by rw [Hl.out]; exact idx_lt hlt2 hlt
              have hx2 : k * n + j < len := by rw [Hl.out]; exact idx_lt hlt hlt3
              have hA := Lib.hid (HU.out.drew.s17 hx1 hx2)
              have hgh := HU.out.gh
              have hlo := HU.out.lo
              go_upto_region 17 with fail
              go_cut [9, 10] (fun p q wc => ∃ pa pb, p = .pointer (some ⟨pa, 0, none⟩) ∧ q = .pointer (some ⟨pb, 0, none⟩) ∧ pa ≠ g ∧ pb ≠ g ∧ Hid (CW w N g len c1 LJ wc ∧ Cells2 wc pa (cg LJ (i * n + k)) ∧ Cells2 wc pb (cg LJ (k * n + j))))
              case first =>
                go_region_held3 (fun w' => S17 w N g len c1 LJ (i * n + k) (k * n + j) w') (first
                  | exact hA.out
                  | (refine CW.s17 ?_ hx1 hx2; repeat (first | exact HU.out | refine CW.drew ?_ | refine CW.alloc ?_ _ | refine CW.set ?_ (by simp; omega) (by simp; omega) _ _)))
                  ((go_at_call 85; refine (CW.at (And.left (by assumption : S17 w N g len c1 LJ (i * n + k) (k * n + j) _)) n _ _ HN.out (by omega) Hl.out (by assumption) (by assumption)).mono ?_; rintro e w1 ⟨rfl, o1, rfl⟩))
                all_goals (go_wp2_with fail; go_meet)
                all_goals exact ⟨_, _, rfl, rfl, by simp; omega, by simp; omega, And.left (by assumption), ⟨by simp [go_sem], by simp [go_sem]⟩, ⟨by simp [go_sem], by simp [go_sem]⟩⟩
              case rest =>
                clear hA HU
                obtain ⟨pa, pb, rfl, rfl, hpa, hpb, HB⟩ := hcut
                have HX : Hid (closeJ n k i LJ j = leastL LJ (i * n + j) ((cg LJ (i * n + k)).has && (cg LJ (k * n + j)).has) (wrap64 ((cg LJ (i * n + k)).most + (cg LJ (k * n + j)).most))) := rfl
                have hx3 : i * n + j < len := by rw [Hl.out]; exact idx_lt hlt2 hlt3
                generalize cg LJ (i * n + k) = X at HB HX
                generalize cg LJ (k * n + j) = Y at HB HX
                obtain ⟨xh, xm⟩ := X
                obtain ⟨yh, ym⟩ := Y
                have hS : ∀ W, CW w N g len c1 LJ W → Cells2 W pa ⟨xh, xm⟩ → Cells2 W pb ⟨yh, ym⟩ → S18 w N g len c1 pa pb xh xm yh ym W := fun W h1 h2 h3 => ⟨⟨h1.b0, h1.b1⟩, h2, h3⟩
                go_upto_region 18 with fail
                cases xh
                · have HD1 : Hid (CW w N g len c1 LJ wc.drew ∧ Cells2 wc.drew pa ⟨false, xm⟩ ∧ Cells2 wc.drew pb ⟨yh, ym⟩) := ⟨HB.out.1.drew, HB.out.2.1, HB.out.2.2⟩
                  refine start_ (n := 16) (S := fun w' => w'.cell? ⟨w.heap.size, 0, none⟩ = some (.int .i64 N) ∧ w'.cell? ⟨w.heap.size, 1, none⟩ = some (.slice (some ⟨g, 0, none⟩) len c1) ∧ w'.cell? ⟨pa, 0, none⟩ = some (.bool false) ∧ w'.cell? ⟨pa, 1, none⟩ = some (.int .i64 xm) ∧ w'.cell? ⟨pb, 0, none⟩ = some (.bool yh) ∧ w'.cell? ⟨pb, 1, none⟩ = some (.int .i64 ym)) (ds := [15]) #[false, false, false, false, false, false, false, false, false, false, false, false, false, false, false, false] (by kernel_rfl) rfl rfl ⟨HD1.out.1.b0, HD1.out.1.b1, HD1.out.2.1.1, HD1.out.2.1.2, HD1.out.2.2.1, HD1.out.2.2.2⟩ (fun hHeld => ?_)
                  generalize wc.drew = wd at HD1 hHeld ⊢
                  refine pure_ (i := 1) (N := some 54) (v := ?_) (a' := ?_) #[false, true, false, false, false, false, false, false, false, false, false, false, false, false, false, false] rfl rfl (by kernel_rfl) (fun _ _ _ h => h) (Or.inl ⟨by rfl, ?_⟩) ?_ ?_
                  rotate_left
                  · intro w'
                    go_simp
                    with_reducible rfl
                  rotate_left
                  · simp only [Act.put, List.setIfInBounds_toArray, List.set_cons_zero, List.set_cons_succ, i64_w, i32_w]
                    rfl
                  refine pure_ (i := 2) (N := some 55) (v := ?_) (a' := ?_) #[false, true, true, false, false, false, false, false, false, false, false, false, false, false, false, false] rfl rfl (by kernel_rfl) (fun _ _ _ h => h) (Or.inl ⟨by rfl, ?_⟩) ?_ ?_
                  rotate_left
                  · intro w'
                    go_simp
                    with_reducible rfl
                  rotate_left
                  · simp only [Act.put, List.setIfInBounds_toArray, List.set_cons_zero, List.set_cons_succ, i64_w, i32_w]
                    rfl
                  refine pure_ (i := 4) (N := some 57) (v := ?_) (a' := ?_) #[false, true, true, false, true, false, false, false, false, false, false, false, false, false, false, false] rfl rfl (by kernel_rfl) (fun _ _ _ h => h) (Or.inl ⟨by rfl, ?_⟩) ?_ ?_
                  rotate_left
                  · intro w'
                    go_simp
                    with_reducible rfl
                  rotate_left
                  · simp only [Act.put, List.setIfInBounds_toArray, List.set_cons_zero, List.set_cons_succ, i64_w, i32_w]
                    rfl
                  refine pure_ (i := 10) (N := some 63) (v := ?_) (a' := ?_) #[false, true, true, false, true, false, false, false, false, false, true, false, false, false, false, false] rfl rfl (by kernel_rfl) (fun _ _ _ h => h) (Or.inl ⟨by rfl, ?_⟩) ?_ ?_
                  rotate_left
                  · intro w'
                    go_simp
                    with_reducible rfl
                  rotate_left
                  · simp only [Act.put, List.setIfInBounds_toArray, List.set_cons_zero, List.set_cons_succ, i64_w, i32_w]
                    rfl
                  refine pure_ (i := 12) (N := some 65) (v := ?_) (a' := ?_) #[false, true, true, false, true, false, false, false, false, false, true, false, true, false, false, false] rfl rfl (by kernel_rfl) (fun _ _ _ h => h) (Or.inl ⟨by rfl, ?_⟩) ?_ ?_
                  rotate_left
                  · intro w'
                    go_simp
                    with_reducible rfl
                  rotate_left
                  · simp only [Act.put, List.setIfInBounds_toArray, List.set_cons_zero, List.set_cons_succ, i64_w, i32_w]
                    rfl
                  refine take_ (i := 0) (N := some 53) (v := ?_) (a' := ?_) #[true, true, true, false, true, false, false, false, false, false, true, false, true, false, false, false] rfl rfl (by kernel_rfl) (fun _ _ _ h => h) (Or.inl ⟨by rfl, ?_⟩) hHeld ?_ ?_
                  rotate_left
                  · rintro w' ⟨s0, s1, s2, s3, s4, s5⟩
                    go_simp
                    with_reducible rfl
                  rotate_left
                  · simp only [Act.put, List.setIfInBounds_toArray, List.set_cons_zero, List.set_cons_succ, i64_w, i32_w]
                    rfl
                  refine take_ (i := 5) (N := some 58) (v := ?_) (a' := ?_) #[true, true, true, false, true, true, false, false, false, false, true, false, true, false, false, false] rfl rfl (by kernel_rfl) (fun _ _ _ h => h) (Or.inl ⟨by rfl, ?_⟩) hHeld ?_ ?_
                  rotate_left
                  · rintro w' ⟨s0, s1, s2, s3, s4, s5⟩
                    go_simp
                    with_reducible rfl
                  rotate_left
                  · simp only [Act.put, List.setIfInBounds_toArray, List.set_cons_zero, List.set_cons_succ, i64_w, i32_w]
                    rfl
                  refine take_ (i := 11) (N := some 64) (v := ?_) (a' := ?_) #[true, true, true, false, true, true, false, false, false, false, true, true, true, false, false, false] rfl rfl (by kernel_rfl) (fun _ _ _ h => h) (Or.inl ⟨by rfl, ?_⟩) hHeld ?_ ?_
                  rotate_left
                  · rintro w' ⟨s0, s1, s2, s3, s4, s5⟩
                    go_simp
                    with_reducible rfl
                  rotate_left
                  · simp only [Act.put, List.setIfInBounds_toArray, List.set_cons_zero, List.set_cons_succ, i64_w, i32_w]
                    rfl
                  refine take_ (i := 13) (N := some 66) (v := ?_) (a' := ?_) #[true, true, true, false, true, true, false, false, false, false, true, true, true, true, false, false] rfl rfl (by kernel_rfl) (fun _ _ _ h => h) (Or.inl ⟨by rfl, ?_⟩) hHeld ?_ ?_
                  rotate_left
                  · rintro w' ⟨s0, s1, s2, s3, s4, s5⟩
                    go_simp
                    with_reducible rfl
                  rotate_left
                  · simp only [Act.put, List.setIfInBounds_toArray, List.set_cons_zero, List.set_cons_succ, i64_w, i32_w]
                    rfl
                  refine pure_ (i := 14) (N := some 67) (v := ?_) (a' := ?_) #[true, true, true, false, true, true, false, false, false, false, true, true, true, true, true, false] rfl rfl (by kernel_rfl) (fun _ _ _ h => h) (Or.inl ⟨by rfl, ?_⟩) ?_ ?_
                  rotate_left
                  · intro w'
                    go_simp
                    with_reducible rfl
                  rotate_left
                  · simp only [Act.put, List.setIfInBounds_toArray, List.set_cons_zero, List.set_cons_succ, i64_w, i32_w]
                    rfl
                  refine one_ (i := 3) (N := some 56) #[true, true, true, true, true, true, false, false, false, false, true, true, true, true, true, false] rfl rfl (by kernel_rfl) (by decide) (fun K hK => ?_)
                  refine goes_ Tryd.func85 (by kernel_rfl) rfl #[.agg #[.int .i64 N, .slice (some ⟨g, 0, none⟩) len c1], .int .i64 i, .int .i64 j] (by rfl) rfl rfl (by simp only [List.map_toArray, List.map_cons, List.map_nil]; rfl) ?_
                  with_reducible refine (at_easy n _ _ HN.out (by omega) Hl.out hlt2 hlt3).mono ?_
                  rintro e w1 ⟨rfl, o1, rfl⟩
                  refine ⟨_, rfl, ?_⟩
                  refine hK.out _ _ ⟨(HD1.out.1.alloc o1).b0, (HD1.out.1.alloc o1).b1, (HD1.out.2.1.alloc o1).1, (HD1.out.2.1.alloc o1).2, (HD1.out.2.2.alloc o1).1, (HD1.out.2.2.alloc o1).2⟩ (fun hHeld => ?_)
                  clear hK K
                  refine norm_ (a' := ?_) ?_ ?_
                  rotate_left
                  · show Act.put _ (some 56) _ = _
                    simp only [Act.put, List.setIfInBounds_toArray, List.set_cons_zero, List.set_cons_succ, i64_w, i32_w]
                    rfl
                  refine pure_ (i := 6) (N := some 59) (v := ?_) (a' := ?_) #[true, true, true, true, true, true, true, false, false, false, true, true, true, true, true, false] rfl rfl (by kernel_rfl) (fun _ _ _ h => h) (Or.inl ⟨by rfl, ?_⟩) ?_ ?_
                  rotate_left
                  · intro w'
                    go_simp
                    with_reducible rfl
                  rotate_left
                  · simp only [Act.put, List.setIfInBounds_toArray, List.set_cons_zero, List.set_cons_succ, i64_w, i32_w]
                    rfl
                  refine pure_ (i := 7) (N := some 60) (v := undef) (a' := ?_) #[true, true, true, true, true, true, true, true, false, false, true, true, true, true, true, false] rfl rfl (by kernel_rfl) (fun _ _ _ h => h) (Or.inr ⟨by rfl, rfl⟩) ?_ ?_
                  rotate_left
                  · simp only [Act.put, List.setIfInBounds_toArray, List.set_cons_zero, List.set_cons_succ, i64_w, i32_w]
                    rfl
                  refine pure_ (i := 8) (N := some 61) (v := undef) (a' := ?_) #[true, true, true, true, true, true, true, true, true, false, true, true, true, true, true, false] rfl rfl (by kernel_rfl) (fun _ _ _ h => h) (Or.inr ⟨by rfl, rfl⟩) ?_ ?_
                  rotate_left
                  · simp only [Act.put, List.setIfInBounds_toArray, List.set_cons_zero, List.set_cons_succ, i64_w, i32_w]
                    rfl
                  refine pure_ (i := 9) (N := some 62) (v := ?_) (a' := ?_) #[true, true, true, true, true, true, true, true, true, true, true, true, true, true, true, false] rfl rfl (by kernel_rfl) (fun _ _ _ h => h) (Or.inl ⟨by rfl, ?_⟩) ?_ ?_
                  rotate_left
                  · intro w'
                    go_simp
                    with_reducible rfl
                  rotate_left
                  · simp only [Act.put, List.setIfInBounds_toArray, List.set_cons_zero, List.set_cons_succ, i64_w, i32_w]
                    rfl
                  refine last_ (i := 15) (N := some 68) #[true, true, true, true, true, true, true, true, true, true, true, true, true, true, true, true] rfl rfl (by kernel_rfl) (by decide) (fun K hK => ?_)
                  refine goes_ Tryd.func114 (by kernel_rfl) rfl #[.pointer (some ⟨g, (i * n + j) * 2, none⟩), .bool false, .int .i64 (wrap64 (xm + ym))] (by rfl) rfl rfl (by simp only [List.map_toArray, List.map_cons, List.map_nil]; rfl) ?_
                  with_reducible refine (CW.least (w := w) (L := LJ) (HD1.out.1.alloc o1) _ hx3 _ _).mono ?_
                  rintro e w2 ⟨rfl, h2, hbut⟩
                  refine ⟨_, rfl, ?_⟩
                  refine hK.out _ _ ?_
                  clear hK K
                  refine norm_ (a' := ?_) ?_ ?_
                  rotate_left
                  · show Act.put _ (some 68) _ = _
                    simp only [Act.put, List.setIfInBounds_toArray, List.set_cons_zero, List.set_cons_succ, i64_w, i32_w]
                    rfl
                  refine done_ (by kernel_rfl) ?_
                  have H2 := Lib.hid h2
                  clear h2 hHeld HD1
                  go_wp2
                  go_roundg (gk - 1)
                  case measure => omega
                  case rel => exact ⟨j + 1, by omega, by omega, by go_num, by show CW _ _ _ _ _ _ _; rw [HJ.out, HX.out]; simp only [Bool.false_and]; exact H2.out⟩
                · go_region_held3 (fun w' => S18 w N g len c1 pa pb true xm yh ym w') (first
                    | exact hS _ HB.out.1.drew HB.out.2.1 HB.out.2.2
                    | exact hS _ (HB.out.1.drew.alloc _) (Cells2.alloc HB.out.2.1 _) (Cells2.alloc HB.out.2.2 _)
                    | exact hS _ (HB.out.1.alloc _).drew (Cells2.alloc HB.out.2.1 _) (Cells2.alloc HB.out.2.2 _)
                    | exact S18.least (by assumption) (by assumption) (by assumption) hpa hpb)
                    (first
                    | (go_at_call 85; refine (at_easy n _ _ HN.out (by omega) Hl.out (by assumption) (by assumption)).mono ?_; rintro e w1 ⟨rfl, o1, rfl⟩)
                    | (go_at_call 114; refine (CW.least (w := w) (L := LJ) (by first | exact (HB.out.1.alloc _).drew | exact HB.out.1.drew.alloc _) _ hx3 _ _).mono ?_; rintro e w2 ⟨rfl, h2, hbut⟩))
                  all_goals
                    have H2 := Lib.hid h2
                    clear h2
                    go_wp2
                    go_roundg (gk - 1)
                    case measure => omega
                    case rel => exact ⟨j + 1, by omega, by omega, by go_num, by show CW _ _ _ _ _ _ _; rw [HJ.out, HX.out, ← IntWalk.i64_left]; simp only [Bool.true_and]; exact H2.out⟩
      case rest =>
        have HP := hcut
        clear hcut
        have HPl : Hid ((preClose n L).length = L.length) := by
          show (preClose n L).length = L.length
          rw [HP.out.ln.symm]
          exact HL.out.symm
        have HC : Hid (closeZ n L = if okL n (preClose n L) = true then some ((preClose n L).map clipC) else none) := rfl
        generalize preClose n L = P at HP HPl HC
        clear HD
        go_wp2
        go_loopw [73] (fun i wr => ∃ k : Nat, k ≤ n ∧ i = .int .i64 k ∧ Hid (∀ j, j < k → okAt n P j = true) ∧ Hid (CW w N g len c1 P wr)) (fun i _ => n - (intOf i).toNat)
        case atStart => exact ⟨0, Nat.zero_le _, rfl, fun j hj => absurd hj (by omega), HP⟩
        case round =>
          obtain ⟨k, hk, rfl, HO, HW⟩ := hrel
          clear HP
          by_cases hlt : k < n
          case neg =>
            obtain rfl : k = n := by omega
            have HN1 : Hid (closeZ k L = some (P.map clipC)) := by
              show closeZ k L = some (P.map clipC)
              rw [HC.out, if_pos]
              unfold okL
              rw [List.all_eq_true]
              intro j hj
              exact HO.out j (List.mem_range.1 hj)
            clear HC HO
            have b1 := HW.out.b1
            have hpl : len = P.length := HW.out.ln
            have HPL := Lib.hid hpl
            clear hpl
            go_wp2
            go_loopw [89] (fun i wr => ∃ q : Nat, q ≤ len ∧ i = .int .i64 q ∧ Hid (CW w N g len c1 (rep clipAt q P) wr)) (fun i _ => len - (intOf i).toNat)
            case atStart => exact ⟨0, Nat.zero_le _, rfl, HW⟩
            case round =>
              obtain ⟨q, hq, rfl, HV⟩ := hrel
              clear HW b1
              by_cases hlt2 : q < len
              · have HS : Hid (rep clipAt (q + 1) P = clipAt (rep clipAt q P) q) := rfl
                have hql : len = (rep clipAt q P).length := HV.out.ln
                have HQL := Lib.hid hql
                clear hql
                generalize rep clipAt q P = LQ at HV HS HQL
                have b1 := HV.out.b1
                have c0 := HV.out.row.at0 HV.out.ln hlt2
                have cm := HV.out.row.at1 HV.out.ln hlt2
                have fr0 := HV.out.row.free HV.out.ln (q * 2)
                have fr1 := HV.out.row.free HV.out.ln (q * 2 + 1)
                have HA : Hid (clipAt LQ q = LQ.set q (clipC (cg LQ q))) := rfl
                have HSelf := Lib.hid (set_self LQ q)
                have HPut := Lib.hid (fun a m => HV.out.row.put HV.out.ln q a m)
                have HPut1 := Lib.hid (fun m => HV.out.row.put1 HV.out.ln q m)
                generalize cg LQ q = X at c0 cm HA HPut1 HSelf
                obtain ⟨xh, xm⟩ := X
                simp only at c0 cm
                by_cases h1 : (1099511627776 : Int) < xm
                · have h1' : decide ((1099511627776 : Int) < xm) = true := decide_eq_true h1
                  have HE : Hid (clipC ⟨xh, xm⟩ = ⟨false, 0⟩) := by
                    show clipC ⟨xh, xm⟩ = _
                    unfold clipC
                    rw [if_pos (by omega)]
                  go_wp2
                  exact ⟨⟨q + 1, by omega, by go_num, by show CW _ _ _ _ _ _ _; rw [HS.out, HA.out, HE.out]; exact HV.out.turn (((But.refl g _).set _ _).set _ _) (HPut.out false 0) (by simp)⟩, by simp [intOf]; omega⟩
                · have h1' : decide ((1099511627776 : Int) < xm) = false := decide_eq_false h1
                  by_cases h2 : xm < -1099511627776
                  · have h2' : decide (xm < -1099511627776) = true := decide_eq_true h2
                    have HE : Hid (clipC ⟨xh, xm⟩ = ⟨xh, -1099511627776⟩) := by
                      show clipC ⟨xh, xm⟩ = _
                      unfold clipC
                      rw [if_neg (by omega), if_pos (by omega)]
                    go_wp2
                    exact ⟨⟨q + 1, by omega, by go_num, by show CW _ _ _ _ _ _ _; rw [HS.out, HA.out, HE.out]; exact HV.out.turn ((But.refl g _).set _ _) (HPut1.out (-1099511627776)) (by simp)⟩, by simp [intOf]; omega⟩
                  · have h2' : decide (xm < -1099511627776) = false := decide_eq_false h2
                    have HE : Hid (clipC ⟨xh, xm⟩ = ⟨xh, xm⟩) := by
                      show clipC ⟨xh, xm⟩ = _
                      unfold clipC
                      rw [if_neg (by omega), if_neg (by omega)]
                    go_wp2
                    exact ⟨⟨q + 1, by omega, by go_num, by show CW _ _ _ _ _ _ _; rw [HS.out, HA.out, HE.out, HSelf.out]; exact HV.out⟩, by simp [intOf]; omega⟩
              · obtain rfl : q = len := by omega
                have b0 := HV.out.b0
                have b1 := HV.out.b1
                have r0 := HV.out.r0
                have r1 := HV.out.r1
                have f0 := HV.out.f0
                have f1 := HV.out.f1
                have HBl := Lib.hid HV.out.below
                have hlo := HV.out.lo
                have hgl := HV.out.gl
                have HRow : Hid (ZRow wr w.heap.size zC (.slice (some ⟨g, 0, none⟩) q c1) (P.map clipC)) := by
                  have := HV.out.row
                  show ZRow _ _ _ _ _
                  rwa [show rep clipAt q P = P.map clipC by rw [HPL.out]; exact rep_clip_all P] at this
                go_wp2
                refine bodyPost_ret (v := .tuple #[.agg #[.int .i64 N, .slice (some ⟨g, 0, none⟩) q c1], .bool true]) (by simp [results, Tryd.results82, go_sem, r0, r1, f0, f1]) rfl ⟨below_set (below_set HBl.out (by simp) _) (by simp) _, ?_⟩
                rw [HN1.out]
                exact ⟨_, _, rfl, (HRow.out.set (by omega) _ _).set (by omega) _ _⟩
          have hx : k * n + k < len := by rw [Hl.out]; exact idx_lt hlt hlt
          have b0 := HW.out.b0
          have b1 := HW.out.b1
          go_wp2_with fail
          refine (HW.out.at n k k HN.out (by omega) Hl.out hlt hlt).mono ?_
          rintro e w1 ⟨rfl, o, rfl⟩
          have q1 := (HW.out.alloc o).row.at1 (HW.out.alloc o).ln hx
          have HX : Hid (okAt n P k = !decide ((cg P (k * n + k)).most < 0)) := rfl
          generalize (cg P (k * n + k)).most = m at q1 HX
          by_cases hm : m < 0
          · have hm1 : decide (m < 0) = true := decide_eq_true hm
            have r0 := (HW.out.alloc o).r0
            have r1 := (HW.out.alloc o).r1
            have f0 := (HW.out.alloc o).f0
            have f1 := (HW.out.alloc o).f1
            have HN1 : Hid (closeZ n L = none) := by
              show closeZ n L = none
              rw [HC.out, if_neg]
              unfold okL
              rw [List.all_eq_true]
              intro q
              have := q k (List.mem_range.2 hlt)
              rw [HX.out, hm1] at this
              cases this
            have HBl := Lib.hid (HW.out.alloc o).below
            go_wp2
            refine bodyPost_ret (v := .tuple #[.agg #[.int .i64 0, .slice none 0 0], .bool false]) (by simp [results, Tryd.results82, go_sem, r0, r1, f0, f1]) rfl ⟨below_set (below_set HBl.out (by simp) _) (by simp) _, by rw [HN1.out]; rfl⟩
          · have hm1 : decide (m < 0) = false := decide_eq_false hm
            go_wp2
            exact ⟨⟨k + 1, by omega, by go_num, fun j hj => by
              rcases Nat.lt_or_ge j k with h | h
              · exact HO.out j h
              · obtain rfl : j = k := by omega
                rw [HX.out, hm1]
                rfl, HW.out.alloc o⟩, by simp [intOf]; omega⟩
end Go.Proofs.Rcn
