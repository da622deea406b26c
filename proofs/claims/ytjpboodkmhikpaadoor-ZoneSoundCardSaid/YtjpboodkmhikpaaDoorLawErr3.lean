/- The sentinels that a row lists: three. -/
import Derived.Test.YtjpboodkmhikpaaDoorLawErr2
set_option linter.unusedVariables false
namespace Go.Proofs.Rcp
open Go Go.RowKit Go.ChangeShapes Go.WideShapes Go.Proofs.Rcg

abbrev adr3 (a b c : Addr) : EA := ⟨fun k => if k = 2 then a else if k = 3 then b else c⟩
theorem errs3 {l : List (String × DataW Unit)} {W : World} {t1 t2 t3 : List UInt8} (hL : laidMetH Tryd.prog l W)
    (h1 : (l.filter fun x => x.1 == "raycone/api.ErrBound") = [("raycone/api.ErrBound", .iface "*errors.errorString" (.ptr (.agg [.lit (.string t1)])))])
    (h2 : (l.filter fun x => x.1 == "raycone/api.ErrShape") = [("raycone/api.ErrShape", .iface "*errors.errorString" (.ptr (.agg [.lit (.string t2)])))])
    (h3 : (l.filter fun x => x.1 == "raycone/api.ErrEmpty") = [("raycone/api.ErrEmpty", .iface "*errors.errorString" (.ptr (.agg [.lit (.string t3)])))]) :
    ∃ E : EA, @ErrAt E 2 1 W ∧ @ErrAt E 3 0 W ∧ @ErrAt E 4 3 W := by
  obtain ⟨a, ha⟩ := sentinel hL (g := 1) (by kernel_rfl) (by kernel_rfl) h1
  obtain ⟨b, hb⟩ := sentinel hL (g := 0) (by kernel_rfl) (by kernel_rfl) h2
  obtain ⟨c, hc⟩ := sentinel hL (g := 3) (by kernel_rfl) (by kernel_rfl) h3
  exact ⟨adr3 a b c, @ErrAt.mk (adr3 a b c) _ _ _ ha, @ErrAt.mk (adr3 a b c) _ _ _ hb, @ErrAt.mk (adr3 a b c) _ _ _ hc⟩
end Go.Proofs.Rcp
