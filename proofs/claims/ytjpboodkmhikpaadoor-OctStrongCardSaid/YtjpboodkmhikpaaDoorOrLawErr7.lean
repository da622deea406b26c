import Derived.Test.YtjpboodkmhikpaaDoorProg
import Derived.Test.YtjpboodkmhikpaaDoorOrEb
import Derived.LaidSub
import Derived.MakeChecks
import Derived.Stop.LaidErr
import Derived.Lib.SmallJoins
/- The sentinels that a row lists: where each lies; for octagons. -/
set_option linter.unusedVariables false
namespace Go.Proofs.Rcp
open Go Go.RowKit Go.ChangeShapes Go.WideShapes Go.Proofs.Rcg

theorem err_star : "*" ++ "errors.errorString" = "*errors.errorString" := by decide
theorem err_row (u : TypeId) (h : Tryd.prog.typeName? 3 u = some "*errors.errorString") : u = 167 :=
  typeName_ptr_named (nm := "errors.errorString") (by rw [err_star]; kernel_rfl) (by kernel_rfl) (by decide) u (by rw [err_star]; exact h)

theorem sentinel {n : String} {g : Nat} {text : List UInt8} {l : List (String × DataW Unit)} {W : World} (hL : laidMetH Tryd.prog l W) (hg : Tryd.prog.globalNamed n = some g) (ht : (Tryd.prog.globals[g]?).map (·.type) = some 26)
    (hf : (l.filter fun x => x.1 == n) = [(n, .iface "*errors.errorString" (.ptr (.agg [.lit (.string text)])))]) : ∃ a, W.cell? ⟨g, 0, none⟩ = some (.iface 167 (.pointer (some a))) := by
  have h := laidMetH.filter (fun x => x.1 == n) hL
  rw [hf, MakeChecks.laidMetH_plain _ _ _ (by rfl)] at h
  obtain ⟨a, s, hv, _⟩ := laid_sentinel h hg ht Tryd.underlying26 err_row Tryd.underlying167 Tryd.underlying187 rfl rfl Tryd.underlying9 (by kernel_rfl) (by kernel_rfl)
  exact ⟨a, by simpa using World.var?_cell hg hv 0⟩

end Go.Proofs.Rcp
namespace Go.Proofs.Rcp
open Go Go.RowKit Go.ChangeShapes Go.WideShapes Go.Proofs.Rcg

abbrev adr7 (a b c d : Addr) : EA := ⟨fun k => if k = 2 then a else if k = 3 then b else if k = 7 then c else d⟩
theorem errs47 {l : List (String × DataW Unit)} {W : World} {t1 t2 t3 t4 : List UInt8} (hL : laidMetH Tryd.prog l W)
    (h1 : (l.filter fun x => x.1 == "raycone/api.ErrBound") = [("raycone/api.ErrBound", .iface "*errors.errorString" (.ptr (.agg [.lit (.string t1)])))])
    (h2 : (l.filter fun x => x.1 == "raycone/api.ErrShape") = [("raycone/api.ErrShape", .iface "*errors.errorString" (.ptr (.agg [.lit (.string t2)])))])
    (h3 : (l.filter fun x => x.1 == "raycone/api.ErrOrder") = [("raycone/api.ErrOrder", .iface "*errors.errorString" (.ptr (.agg [.lit (.string t3)])))])
    (h4 : (l.filter fun x => x.1 == "raycone/api.ErrEmpty") = [("raycone/api.ErrEmpty", .iface "*errors.errorString" (.ptr (.agg [.lit (.string t4)])))]) :
    ∃ E : EA, @ErrAt E 2 1 W ∧ @ErrAt E 3 0 W ∧ @ErrAt E 4 3 W ∧ @ErrAt E 7 4 W := by
  obtain ⟨a, ha⟩ := sentinel hL (g := 1) (by kernel_rfl) (by kernel_rfl) h1
  obtain ⟨b, hb⟩ := sentinel hL (g := 0) (by kernel_rfl) (by kernel_rfl) h2
  obtain ⟨c, hc⟩ := sentinel hL (g := 4) (by kernel_rfl) (by kernel_rfl) h3
  obtain ⟨d, hd⟩ := sentinel hL (g := 3) (by kernel_rfl) (by kernel_rfl) h4
  exact ⟨adr7 a b c d, @ErrAt.mk (adr7 a b c d) _ _ _ ha, @ErrAt.mk (adr7 a b c d) _ _ _ hb, @ErrAt.mk (adr7 a b c d) _ _ _ hd, @ErrAt.mk (adr7 a b c d) _ _ _ hc⟩
end Go.Proofs.Rcp
