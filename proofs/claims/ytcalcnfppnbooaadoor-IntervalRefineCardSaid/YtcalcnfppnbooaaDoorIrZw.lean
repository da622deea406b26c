import Derived.Test.YtcalcnfppnbooaaDoorIrMem
import Derived.Test.YtcalcnfppnbooaaDoorIrWd
import Derived.Test.YtcalcnfppnbooaaDoorProg
import Derived.WalkKit
import Derived.WalkSpells
import Derived.WalkLawsBesides
import Derived.Outline
import Derived.Lib.Hide
import Derived.Deep.QuietTactic
import Derived.BigQuiet
import Derived.Deep.DeepCutAuto
import Derived.Deep.RegionHeld3
import Derived.Lib.SliceRun
import Derived.Deep.LoopGhost
import Derived.Deep.CutBlock
import Derived.Test.YtcalcnfppnbooaaDoorIrW
/- Package zone: rows of bounds that come in; least, at, clone, close, walked. -/
set_option linter.unusedVariables false
set_option linter.unusedSimpArgs false
namespace Go.Proofs.Rcn
open Go Go.RowKit
/-- A row of pairs (a bound and whether it is one) that is read. -/
def RCel (w : World) (A : Option Addr) (n : Nat) (L : List Cel) : Prop :=
  L.length = n ∧ (0 < n → ∃ g o, A = some ⟨g, o, none⟩ ∧ ∀ j, j < n → w.cell? ⟨g, o + j * 2, none⟩ = some (.bool (cg L j).has) ∧ w.cell? ⟨g, o + j * 2 + 1, none⟩ = some (.int .i64 (cg L j).most))
theorem RCel.below {w w1 : World} {A : Option Addr} {n : Nat} {L : List Cel} (h : RCel w A n L) (hb : Below w.heap.size w w1) : RCel w1 A n L :=
  ⟨h.1, fun hn => by
    obtain ⟨g, o, e, hc⟩ := h.2 hn
    exact ⟨g, o, e, fun j hj => ⟨cell_below hb (hc j hj).1, cell_below hb (hc j hj).2⟩⟩⟩
/-- A slice of whole numbers that is read. -/
def RInts (w : World) (A : Option Addr) (n : Nat) (xs : List Int) : Prop :=
  xs.length = n ∧ (0 < n → ∃ g o, A = some ⟨g, o, none⟩ ∧ ∀ j, j < n → w.cell? ⟨g, o + j, none⟩ = some (.int .i64 (xs.getD j 0)))
theorem RInts.below {w w1 : World} {A : Option Addr} {n : Nat} {xs : List Int} (h : RInts w A n xs) (hb : Below w.heap.size w w1) : RInts w1 A n xs :=
  ⟨h.1, fun hn => by
    obtain ⟨g, o, e, hc⟩ := h.2 hn
    exact ⟨g, o, e, fun j hj => cell_below hb (hc j hj)⟩⟩

theorem cell_two (w : World) (p q i j : Nat) (u : Value) (h : ¬ (q = p ∧ j = i)) : (w.setCell ⟨p, i, none⟩ u).cell? ⟨q, j, none⟩ = w.cell? ⟨q, j, none⟩ :=
  World.cell?_setCell_other w ⟨p, i, none⟩ ⟨q, j, none⟩ u (fun e => h (by simp at e; exact ⟨e.1.symm, e.2.symm⟩))
theorem frozen_set (w : World) (a q : Addr) (u : Value) : (w.setCell a u).frozen? q = w.frozen? q := by
  simp only [World.frozen?, World.setCell, Array.getElem?_modify]
  by_cases h : a.block = q.block
  · simp only [h, if_true]
    cases hq : w.heap[q.block]? with
    | none => simp
    | some o => cases o <;> simp <;> rfl
  · simp [h]


end Go.Proofs.Rcn
set_option linter.unusedVariables false
set_option linter.unusedSimpArgs false
namespace Go.Proofs.Rcn
open Go Go.RowKit

theorem leastC_no {c : Cel} {h : Bool} {m : Int} (e : (h && (!c.has || decide (m < c.most))) = false) : leastC c h m = c := by simp [leastC, e]
theorem leastL_no {L : List Cel} {k : Nat} {h : Bool} {m : Int} (e : (h && (!(cg L k).has || decide (m < (cg L k).most))) = false) : leastL L k h m = L := by
  unfold leastL
  rw [leastC_no e]
  apply List.ext_getElem (by simp)
  intro i h1 h2
  rw [List.getElem_set]
  split
  · rename_i hi; subst hi; simp [cg, List.getD_eq_getElem?_getD, List.getElem?_eq_getElem h2]
  · rfl
theorem leastL_yes {L : List Cel} {k : Nat} {h : Bool} {m : Int} (e : (h && (!(cg L k).has || decide (m < (cg L k).most))) = true) : leastL L k h m = L.set k ⟨true, m⟩ := by
  unfold leastL leastC
  rw [if_pos e]

abbrev zC : TypeId := 120

/-! ### least, at -/
set_option maxHeartbeats 400000 in
theorem least_core (g o : Nat) (h a : Bool) (m x : Int) (w : World) (c0 : w.cell? ⟨g, o, none⟩ = some (.bool a)) (c1 : w.cell? ⟨g, o + 1, none⟩ = some (.int .i64 x))
    (f0 : w.frozen? ⟨g, o, none⟩ = false) (f1 : w.frozen? ⟨g, o + 1, none⟩ = false) :
    Calls Tryd.prog 114 #[.pointer (some ⟨g, o, none⟩), .bool h, .int .i64 m] w fun e w' => e = .returned (.tuple #[]) ∧
      w' = if (h && (!a || decide (m < x))) = true then (w.setCell ⟨g, o, none⟩ (.bool true)).setCell ⟨g, o + 1, none⟩ (.int .i64 m) else w := by
  cases h
  · go_enter Tryd.func114, Tryd.ntmps114
    go_wp2
    go_end0
    exact ⟨rfl, rfl⟩
  cases a
  · go_enter Tryd.func114, Tryd.ntmps114
    go_wp2
    go_end0
    exact ⟨rfl, rfl⟩
  by_cases hm : m < x
  · rw [decide_eq_true hm]
    go_enter Tryd.func114, Tryd.ntmps114
    go_wp2
    go_end0
    exact ⟨rfl, rfl⟩
  · rw [decide_eq_false hm]
    go_enter Tryd.func114, Tryd.ntmps114
    go_wp2
    go_end0
    exact ⟨rfl, rfl⟩

theorem least_any (g n cap k base : Nat) (L : List Cel) (h : Bool) (m : Int) (w : World) (hz : ZRow w base zC (.slice (some ⟨g, 0, none⟩) n cap) L) (hn : n = L.length) (hk : k < n) :
    Calls Tryd.prog 114 #[.pointer (some ⟨g, k * 2, none⟩), .bool h, .int .i64 m] w fun e w' => e = .returned (.tuple #[]) ∧ ZRow w' base zC (.slice (some ⟨g, 0, none⟩) n cap) (leastL L k h m) ∧ But g w w' := by
  refine (least_core g (k * 2) h _ m _ w (hz.at0 hn hk) (hz.at1 hn hk) (hz.free hn _) (hz.free hn _)).mono ?_
  rintro e w' ⟨rfl, rfl⟩
  refine ⟨rfl, ?_⟩
  split
  · rename_i e
    rw [leastL_yes e]
    exact ⟨hz.put hn k true m, ((But.refl g w).set _ _).set _ _⟩
  · rename_i e
    rw [leastL_no (by simpa using e)]
    exact ⟨hz, But.refl g w⟩

set_option maxHeartbeats 400000 in
theorem at_gen (n i j g o len cap : Nat) (N : Int) (w : World) (hN : N + 1 = n) (hn : n ≤ 16) (_hi : i ≤ 16) (hj : j ≤ 16) (hk : i * n + j < len) (hl : len ≤ 1000) :
    Calls Tryd.prog 85 #[.agg #[.int .i64 N, .slice (some ⟨g, o, none⟩) len cap], .int .i64 i, .int .i64 j] w fun e w' => e = .returned (.pointer (some ⟨g, o + (i * n + j) * 2, none⟩)) ∧ ∃ o, w' = w.alloc o := by
  obtain rfl : N = (n : Int) - 1 := by omega
  go_enter Tryd.func85, Tryd.ntmps85
  go_wp2
  go_ret
  exact ⟨rfl, _, rfl⟩
theorem at_any (n i j g len cap : Nat) (N : Int) (w : World) (hN : N + 1 = n) (hn : n ≤ 16) (hi : i ≤ 16) (hj : j ≤ 16) (hk : i * n + j < len) (hl : len ≤ 1000) :
    Calls Tryd.prog 85 #[.agg #[.int .i64 N, .slice (some ⟨g, 0, none⟩) len cap], .int .i64 i, .int .i64 j] w fun e w' => e = .returned (.pointer (some ⟨g, (i * n + j) * 2, none⟩)) ∧ ∃ o, w' = w.alloc o := by
  have := at_gen n i j g 0 len cap N w hN hn hi hj hk hl
  simpa using this

/-! ### a row is read; copied -/
end Go.Proofs.Rcn

set_option linter.unusedVariables false
set_option linter.unusedSimpArgs false
namespace Go.Proofs.Rcn
open Go Go.RowKit
open Go.Proofs.YtcalcnfppnbooaaDoorW.PrintLast (start_ pure_ take_ one_ last_ norm_ done_ goes_ value_ skip_ i64_w i32_w)

/-- What stands while a zone is closed: the box with the zone, the answer's block, the row. -/
structure CW (w : World) (N : Int) (g len c : Nat) (L : List Cel) (wr : World) : Prop where
  below : Below w.heap.size w wr
  lo : w.heap.size + 1 < wr.heap.size
  b0 : wr.cell? ⟨w.heap.size, 0, none⟩ = some (.int .i64 N)
  b1 : wr.cell? ⟨w.heap.size, 1, none⟩ = some (.slice (some ⟨g, 0, none⟩) len c)
  r0 : wr.cell? ⟨w.heap.size + 1, 0, none⟩ = some (.int .i64 0)
  r1 : wr.cell? ⟨w.heap.size + 1, 1, none⟩ = some (.slice none 0 0)
  f0 : wr.frozen? ⟨w.heap.size + 1, 0, none⟩ = false
  f1 : wr.frozen? ⟨w.heap.size + 1, 1, none⟩ = false
  row : ZRow wr w.heap.size zC (.slice (some ⟨g, 0, none⟩) len c) L
  ln : len = L.length
  gl : w.heap.size + 1 < g
  gh : g < wr.heap.size
theorem CW.next {w W w1 : World} {N : Int} {g len c : Nat} {L : List Cel} (h : CW w N g len c L W) (hb : Below W.heap.size W w1) : CW w N g len c L w1 :=
  ⟨below_then h.below hb, Nat.lt_of_lt_of_le h.lo hb.size, cell_below hb h.b0, cell_below hb h.b1, cell_below hb h.r0, cell_below hb h.r1,
    ((bcell hb).2 _ _ h.lo).trans h.f0, ((bcell hb).2 _ _ h.lo).trans h.f1, h.row.below hb, h.ln, h.gl, Nat.lt_of_lt_of_le h.gh hb.size⟩
theorem CW.drew {w W : World} {N : Int} {g len c : Nat} {L : List Cel} (h : CW w N g len c L W) : CW w N g len c L W.drew := h.next (below_drew (Below.refl _ _))
theorem CW.alloc {w W : World} {N : Int} {g len c : Nat} {L : List Cel} (h : CW w N g len c L W) (o : Obj) : CW w N g len c L (W.alloc o) := h.next (below_alloc (Below.refl _ _) o)
theorem But.frozen {g : Nat} {w w' : World} (h : But g w w') {b : Nat} (hb : b < w.heap.size) (hg : b ≠ g) (i : Nat) : w'.frozen? ⟨b, i, none⟩ = w.frozen? ⟨b, i, none⟩ := by
  have := h.block b hb (by simpa using hg)
  simp only [World.frozen?, this]
theorem CW.turn {w W w1 : World} {N : Int} {g len c : Nat} {L M : List Cel} (h : CW w N g len c L W) (hb : But g W w1) (hz : ZRow w1 w.heap.size zC (.slice (some ⟨g, 0, none⟩) len c) M) (hl : M.length = L.length) : CW w N g len c M w1 :=
  have q := h.gl
  ⟨hb.below h.below (by have := h.lo; omega) (by omega), Nat.lt_of_lt_of_le h.lo hb.size, hb.cell h.b0 (by simp; omega), hb.cell h.b1 (by simp; omega), hb.cell h.r0 (by simp; omega), hb.cell h.r1 (by simp; omega),
    (hb.frozen h.lo (by omega) _).trans h.f0, (hb.frozen h.lo (by omega) _).trans h.f1, hz, h.ln.trans hl.symm, h.gl, Nat.lt_of_lt_of_le h.gh hb.size⟩
theorem ZRow.set {w : World} {base g n c : Nat} {e : TypeId} {L : List Cel} (h : ZRow w base e (.slice (some ⟨g, 0, none⟩) n c) L) {b : Nat} (hb : b ≠ g) (i : Nat) (u : Value) : ZRow (w.setCell ⟨b, i, none⟩ u) base e (.slice (some ⟨g, 0, none⟩) n c) L :=
  World.ownsRow.kept (row := some b) h.out ((But.refl b w).set i u) (by simp [Value.ownBlock]; omega)
theorem CW.set {w W : World} {N : Int} {g len c : Nat} {L : List Cel} (h : CW w N g len c L W) {b : Nat} (hb : w.heap.size + 1 < b) (hg : b ≠ g) (i : Nat) (u : Value) : CW w N g len c L (W.setCell ⟨b, i, none⟩ u) :=
  ⟨below_set h.below (by simp; omega) _, by simpa using h.lo, (cell_two _ _ _ _ _ _ (by omega)).trans h.b0, (cell_two _ _ _ _ _ _ (by omega)).trans h.b1, (cell_two _ _ _ _ _ _ (by omega)).trans h.r0, (cell_two _ _ _ _ _ _ (by omega)).trans h.r1,
    (frozen_set ..).trans h.f0, (frozen_set ..).trans h.f1, h.row.set hg i u, h.ln, h.gl, by simpa using h.gh⟩
/-- A block with a bound. -/
def Cells2 (w : World) (p : Nat) (o : Cel) : Prop := w.cell? ⟨p, 0, none⟩ = some (.bool o.has) ∧ w.cell? ⟨p, 1, none⟩ = some (.int .i64 o.most)
abbrev S18 (w : World) (N : Int) (g len c pa pb : Nat) (xh : Bool) (xm : Int) (yh : Bool) (ym : Int) (W : World) : Prop :=
  (W.cell? ⟨w.heap.size, 0, none⟩ = some (.int .i64 N) ∧ W.cell? ⟨w.heap.size, 1, none⟩ = some (.slice (some ⟨g, 0, none⟩) len c)) ∧
    (W.cell? ⟨pa, 0, none⟩ = some (.bool xh) ∧ W.cell? ⟨pa, 1, none⟩ = some (.int .i64 xm)) ∧ (W.cell? ⟨pb, 0, none⟩ = some (.bool yh) ∧ W.cell? ⟨pb, 1, none⟩ = some (.int .i64 ym))
theorem Cells2.alloc {W : World} {p : Nat} {x : Cel} (h : Cells2 W p x) (o : Obj) : Cells2 (W.alloc o) p x := ⟨cell_below (below_alloc (Below.refl _ _) o) h.1, cell_below (below_alloc (Below.refl _ _) o) h.2⟩
theorem S18.least {w W w1 : World} {N : Int} {g len c pa pb : Nat} {xh : Bool} {xm : Int} {yh : Bool} {ym : Int} {M : List Cel} (h : S18 w N g len c pa pb xh xm yh ym W) (hm : CW w N g len c M w1) (hb : But g W w1) (hpa : pa ≠ g) (hpb : pb ≠ g) : S18 w N g len c pa pb xh xm yh ym w1 :=
  ⟨⟨hm.b0, hm.b1⟩, ⟨hb.cell h.2.1.1 hpa, hb.cell h.2.1.2 hpa⟩, hb.cell h.2.2.1 hpb, hb.cell h.2.2.2 hpb⟩
theorem CW.least {w W : World} {N : Int} {g len c : Nat} {L : List Cel} (h : CW w N g len c L W) (k : Nat) (hk : k < len) (b : Bool) (m : Int) :
    Calls Tryd.prog 114 #[.pointer (some ⟨g, k * 2, none⟩), .bool b, .int .i64 m] W fun e w' => e = .returned (.tuple #[]) ∧ CW w N g len c (leastL L k b m) w' ∧ But g W w' :=
  (least_any g len c k w.heap.size L b m W h.row h.ln hk).mono fun e w' q => ⟨q.1, h.turn q.2.2 q.2.1 (leastL_length ..), q.2.2⟩
theorem CW.at {w W : World} {N : Int} {g len c : Nat} {L : List Cel} (h : CW w N g len c L W) (n i j : Nat) (hN : N + 1 = n) (hn : n ≤ 16) (hl : len = n * n) (hi : i < n) (hj : j < n) :
    Calls Tryd.prog 85 #[.agg #[.int .i64 N, .slice (some ⟨g, 0, none⟩) len c], .int .i64 i, .int .i64 j] W fun e w' => e = .returned (.pointer (some ⟨g, (i * n + j) * 2, none⟩)) ∧ ∃ o, w' = W.alloc o :=
  at_any n i j g len c N W hN hn (by omega) (by omega) (by rw [hl]; exact idx_lt hi hj) (by have := Nat.mul_le_mul hn hn; omega)

end Go.Proofs.Rcn
