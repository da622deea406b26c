import Derived.Test.YtcalcnfppnbooaaDoorIrZones
import Derived.Below
import Derived.Laws.OwnMore
import Derived.Laws.AppendOwn
import Derived.Deep.AppendLies
import Derived.Maps.AppendAt
/- Rows of bounds in memory: read, written. No program's numbers. -/
namespace Go.Proofs.Rcn
open Go Go.RowKit

def cv (c : Cel) : List Value := [.bool c.has, .int .i64 c.most]
def cvs (L : List Cel) : List Value := L.flatMap cv

theorem cvs_cons (c : Cel) (L : List Cel) : cvs (c :: L) = .bool c.has :: .int .i64 c.most :: cvs L := rfl
theorem cvs_at0 : ∀ (L : List Cel) (k : Nat), k < L.length → (cvs L)[k * 2]? = some (.bool (cg L k).has)
  | [], k, h => by simp at h
  | c :: L, 0, _ => rfl
  | c :: L, k + 1, h => by
    rw [cvs_cons, show (k + 1) * 2 = k * 2 + 1 + 1 by omega, List.getElem?_cons_succ, List.getElem?_cons_succ, cvs_at0 L k (by simpa using h)]
    rfl
theorem cvs_at1 : ∀ (L : List Cel) (k : Nat), k < L.length → (cvs L)[k * 2 + 1]? = some (.int .i64 (cg L k).most)
  | [], k, h => by simp at h
  | c :: L, 0, _ => rfl
  | c :: L, k + 1, h => by
    rw [cvs_cons, show (k + 1) * 2 + 1 = k * 2 + 1 + 1 + 1 by omega, List.getElem?_cons_succ, List.getElem?_cons_succ, cvs_at1 L k (by simpa using h)]
    rfl
theorem cvs_set : ∀ (L : List Cel) (k : Nat) (h : Bool) (m : Int), ((cvs L).set (k * 2) (.bool h)).set (k * 2 + 1) (.int .i64 m) = cvs (L.set k ⟨h, m⟩)
  | [], k, h, m => rfl
  | c :: L, 0, h, m => rfl
  | c :: L, k + 1, h, m => by
    rw [cvs_cons, show (k + 1) * 2 = k * 2 + 1 + 1 by omega, show k * 2 + 1 + 1 + 1 = (k * 2 + 1) + 1 + 1 by omega]
    simp only [List.set_cons_succ]
    rw [cvs_set L k h m]
    rfl
/-- Block g holds a row of the call's own: these bounds. -/
def ZRow (w : World) (base : Nat) (e : TypeId) (v : Value) (L : List Cel) : Prop := w.ownsRow base e 2 v L.length (cvs L)
theorem ZRow.out {w base e v L} (h : ZRow w base e v L) : w.ownsRow base e 2 v L.length (cvs L) := h

section
variable {w w' : World} {base g n cap : Nat} {e : TypeId} {v : Value} {L : List Cel}

/-- What it looks like where it is not empty. -/
theorem ZRow.form (h : ZRow w base e v L) (hn : 0 < L.length) : ∃ g cap, v = .slice (some ⟨g, 0, none⟩) L.length cap ∧ base ≤ g ∧ g < w.heap.size := by
  obtain ⟨g, cap, rfl, hb, hl⟩ := World.ownsRow.form h.out hn
  exact ⟨g, cap, rfl, hb, hl⟩
theorem ZRow.slice (h : ZRow w base e v L) : ∃ A c, v = .slice A L.length c := by
  rcases h.out.2 with ⟨rfl, hn⟩ | ⟨g, cap, cur, rfl, _⟩
  · rw [hn]; exact ⟨none, 0, rfl⟩
  · exact ⟨_, cap, rfl⟩
theorem ZRow.at0 (h : ZRow w base e (.slice (some ⟨g, 0, none⟩) n cap) L) (hn : n = L.length) {k : Nat} (hk : k < n) : w.cell? ⟨g, k * 2, none⟩ = some (.bool (cg L k).has) := by
  subst hn
  rw [World.ownsRow.cellAt h.out (k * 2) (by omega), cvs_at0 L k hk]
theorem ZRow.at1 (h : ZRow w base e (.slice (some ⟨g, 0, none⟩) n cap) L) (hn : n = L.length) {k : Nat} (hk : k < n) : w.cell? ⟨g, k * 2 + 1, none⟩ = some (.int .i64 (cg L k).most) := by
  subst hn
  rw [World.ownsRow.cellAt h.out (k * 2 + 1) (by omega), cvs_at1 L k hk]
theorem ZRow.free (h : ZRow w base e (.slice (some ⟨g, 0, none⟩) n cap) L) (hn : n = L.length) (j : Nat) : w.frozen? ⟨g, j, none⟩ = false := by
  subst hn
  exact World.ownsRow.frozenAt h.out j
theorem ZRow.put (h : ZRow w base e (.slice (some ⟨g, 0, none⟩) n cap) L) (hn : n = L.length) (k : Nat) (a : Bool) (m : Int) :
    ZRow ((w.setCell ⟨g, k * 2, none⟩ (.bool a)).setCell ⟨g, k * 2 + 1, none⟩ (.int .i64 m)) base e (.slice (some ⟨g, 0, none⟩) n cap) (L.set k ⟨a, m⟩) := by
  subst hn
  have h1 := (World.ownsRow.stored h.out (k * 2) (.bool a)).1
  have h2 := (World.ownsRow.stored h1 (k * 2 + 1) (.int .i64 m)).1
  unfold ZRow
  rw [List.length_set, ← cvs_set]
  exact h2
theorem ZRow.below (h : ZRow w base e v L) (hb : Below w.heap.size w w') : ZRow w' base e v L :=
  World.ownsRow.kept (row := none) h.out ⟨hb.os, hb.tape, hb.output, hb.size, fun i hi _ => hb.block i hi⟩ (by cases v.ownBlock <;> simp)
theorem ZRow.alloc (h : ZRow w base e v L) (o : Obj) : ZRow (w.alloc o) base e v L := World.ownsRow.alloc h.out o
theorem ZRow.drew (h : ZRow w base e v L) : ZRow w.drew base e v L := h
theorem ZRow.low (h : ZRow w base e v L) {b : Nat} (hb : b ≤ base) : ZRow w b e v L := by
  refine ⟨h.out.1, ?_⟩
  rcases h.out.2 with h | ⟨g, cap, cur, hv, hg, r⟩
  · exact .inl h
  · exact .inr ⟨g, cap, cur, hv, by omega, r⟩
end

/-- w' is w, but for new blocks and what stands in block g. -/
def But (g : Nat) (w w' : World) : Prop := w.grownBy w' (some g)
theorem But.refl (g w) : But g w w := ⟨rfl, rfl, rfl, Nat.le_refl _, fun _ _ _ => rfl⟩
theorem But.trans {g a b c} (h : But g a b) (k : But g b c) : But g a c := World.grownBy.trans h k
theorem But.of_below {g w w'} (h : Below w.heap.size w w') : But g w w' := ⟨h.os, h.tape, h.output, h.size, fun i hi _ => h.block i hi⟩
theorem But.alloc {g a b} (h : But g a b) (o : Obj) : But g a (b.alloc o) := World.grownBy.trans h (World.grownBy_alloc b o _)
theorem But.drew {g a b} (h : But g a b) : But g a b.drew := ⟨h.os, h.tape, h.output, h.size, h.block⟩
theorem But.set {g a b} (h : But g a b) (j : Nat) (u : Value) : But g a (b.setCell ⟨g, j, none⟩ u) :=
  World.grownBy.trans h ⟨rfl, rfl, rfl, by simp [World.setCell], fun k _ hk => Below.heap_setCell _ _ _ _ (fun e => hk (by simp [e]))⟩
theorem But.cell {g w w'} (h : But g w w') {p : Addr} {u : Value} (hc : w.cell? p = some u) (hp : p.block ≠ g) : w'.cell? p = some u := World.grownBy.cell h hc (by simpa using hp)
theorem But.below {g B a w w'} (h : But g w w') (hb : Below B a w) (hB : B ≤ w.heap.size) (hg : B ≤ g) : Below B a w' := hb.grown h hB (fun k hk => by cases hk; exact hg)

end Go.Proofs.Rcn
