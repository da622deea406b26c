import Derived.Test.YtcalcnfppnbooaaDoorIrWd
import Derived.Test.YtcalcnfppnbooaaDoorProg
import Derived.Test.YtcalcnfppnbooaaDoorIrW
import Derived.KernelRfl
/- The sentinels of package api: where they stand, how an error reads by its number. -/
namespace Go.Proofs.Rcg
open Go Go.RowKit Go.Proofs.Rcn

/-- Where the errors lie. -/
class EA where adr : Int → Addr
/-- An error by its number. -/
def errW [EA] : Option Int → Value
  | none => .nilIface
  | some c => .iface 210 (.pointer (some (EA.adr c)))
theorem errW_none [EA] : errW none = .nilIface := rfl
theorem errW_some [EA] (c : Int) : errW (some c) = .iface 210 (.pointer (some (EA.adr c))) := rfl

/-- The variable in block g holds the error of number c. -/
structure ErrAt [EA] (c : Int) (g : Nat) (w : World) : Prop where
  cell : w.cell? ⟨g, 0, none⟩ = some (.iface 210 (.pointer (some (EA.adr c))))
theorem ErrAt.below [EA] {c : Int} {g : Nat} {w w1 : World} (h : ErrAt c g w) (hb : Below w.heap.size w w1) : ErrAt c g w1 := ⟨cell_below hb h.cell⟩
theorem ErrAt.lt [EA] {c : Int} {g : Nat} {w : World} (h : ErrAt c g w) : g < w.heap.size := World.block_lt_of_cell? w _ h.cell

/-! Words for printed texts. -/
open Go.Proofs.YtcalcnfppnbooaaDoorW.PrintWords Go.Proofs.YtcalcnfppnbooaaDoorW.PrintLast Go.Proofs.YtcalcnfppnbooaaDoorW.PrintMore
theorem pk {p : Prop} (h : p := by (with_reducible repeat (first | refine blk_drewN ?_ _ | refine blk_drew ?_ | refine blk_alloc ?_ _)); exact Aside0.out (by first | (with_reducible assumption) | assumption)) : p := h
theorem pw {p : Prop} (h : p := by repeat (first | (with_reducible first | exact HB.out | apply below_alloc | apply pw_below_drewN | apply below_drew1 | refine below_set ?_ (Aside0.out (by assumption))) | exact HB.out)) : p := h
theorem bc {W : World} {g : Nat} {cs : Array Value} {t : TypeId} (h : Aside0 (W.heap[g]? = some (.cells cs t (0, 0)))) (i : Nat) {v : Value} (hv : cs[i]? = some v := by rfl) : W.cell? ⟨g, i, none⟩ = some v := (blk_cell h.out i).trans hv
theorem am {p : Prop} (h : p) : Aside0 p := ⟨h⟩
theorem kk {p : Prop} (h : p := by kernel_rfl) : p := h
theorem pe {p : Prop} (h : p := by first | rfl | (simp [errW_none, errW_some] <;> rfl) | (simp [*, errW_none, errW_some] <;> rfl)) : p := h
theorem pr {p : Prop} (h : p := by first | rfl | (simp; done) | (simp [*]; done)) : p := h
theorem bb {W0 W1 W2 : World} {g : Nat} {o : Obj} (h : Aside0 (W0.heap[g]? = some o)) (hb : Below W1.heap.size W1 W2) (hs : W0.heap[g]? = some o → W1.heap[g]? = some o := by intro h_; (with_reducible repeat (first | refine blk_drewN ?_ _ | refine blk_drew ?_ | refine blk_alloc ?_ _)); exact h_) : Aside0 (W2.heap[g]? = some o) := ⟨blk_below (hs h.out) hb⟩
end Go.Proofs.Rcg
