/- Stores into a variable of two cells: the other cell reads as it read. (No side condition: the walk's simp need not look deeper.) -/
import Derived.RowKit
import Derived.Laws.NewBlocks
namespace Go.Proofs.Rcg
open Go
theorem cell_ne01 (w : World) (g : Nat) (v : Value) : (w.setCell ⟨g, 0, none⟩ v).cell? ⟨g, 1, none⟩ = w.cell? ⟨g, 1, none⟩ := World.cell?_setCell_other _ _ _ _ (fun e => by simp at e)
theorem cell_ne10 (w : World) (g : Nat) (v : Value) : (w.setCell ⟨g, 1, none⟩ v).cell? ⟨g, 0, none⟩ = w.cell? ⟨g, 0, none⟩ := World.cell?_setCell_other _ _ _ _ (fun e => by simp at e)
end Go.Proofs.Rcg
