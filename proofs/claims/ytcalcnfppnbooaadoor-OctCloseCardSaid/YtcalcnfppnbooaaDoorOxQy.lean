import Derived.Test.YtcalcnfppnbooaaDoorOxZk
import Derived.Test.YtcalcnfppnbooaaDoorOxQf
/- Package octagon: the value of a variable or its opposite; signs. -/
set_option linter.unusedVariables false
set_option linter.unusedSimpArgs false
namespace Go.Proofs.Rco
open Go Go.RowKit Go.Proofs.Rcn Go.Proofs.Rcg Go.Proofs.YtcalcnfppnbooaaDoor.Z Go.Proofs.YtcalcnfppnbooaaDoorW.PrintWords
theorem value_any (g o m cb : Nat) (l : List Int) (i : Nat) (w : World) (hl : RInts w (some ⟨g, o, none⟩) m l) (hi : i < 2 * m) (hm : m ≤ 1000) (hr : ∀ k, -1099511627776 ≤ l.getD k 0 ∧ l.getD k 0 ≤ 1099511627776) :
    Calls Tryd.prog 108 #[.slice (some ⟨g, o, none⟩) m cb, .int .i64 i] w fun e w' => e = .returned (.int .i64 (valO l i)) ∧ w' = w := by
  have hc : w.cell? ⟨g, o + i / 2, none⟩ = some (.int .i64 (l.getD (i / 2) 0)) := by
    obtain ⟨g', o', e, h⟩ := hl.2 (by omega)
    simp only [Option.some.injEq, Addr.mk.injEq, and_true] at e
    obtain ⟨rfl, rfl⟩ := e
    exact h _ (by omega)
  have HV : Hid (valO l i = if i % 2 = 1 then -(l.getD (i / 2) 0) else l.getD (i / 2) 0) := rfl
  have hq := hr (i / 2)
  generalize l.getD (i / 2) 0 = v at hc HV hq
  generalize valO l i = r at HV
  obtain ⟨q, hq2⟩ : ∃ q, q = i / 2 := ⟨_, rfl⟩
  rw [← hq2] at hc
  have e2 : (i : Int) / 2 = (q : Int) := by omega
  have hqm : q < m := by omega
  clear hl hr
  by_cases hp : i % 2 = 1
  · have e1 : (i : Int) % 2 = 1 := by omega
    have HR := Lib.hid HV.out
    rw [if_pos hp] at HR
    clear hp hq2 HV
    go_enter Tryd.func108, Tryd.ntmps108
    go_wp2
    go_ret
    exact ⟨by rw [HR.out]; rfl, rfl⟩
  · have e1 : (i : Int) % 2 = 0 := by omega
    have HR := Lib.hid HV.out
    rw [if_neg hp] at HR
    clear hp hq2 HV
    go_enter Tryd.func108, Tryd.ntmps108
    go_wp2
    go_ret
    exact ⟨by rw [HR.out]; rfl, rfl⟩
end Go.Proofs.Rco
