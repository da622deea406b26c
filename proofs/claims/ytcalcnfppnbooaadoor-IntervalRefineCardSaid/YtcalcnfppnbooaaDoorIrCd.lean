import Derived.Test.YtcalcnfppnbooaaDoorIrAs
import Derived.Test.YtcalcnfppnbooaaDoorIrEb
import Derived.Lib.Hide
import Derived.Deep.QuietTactic
import Derived.BigQuiet
/- plain.Code and 'coded': a sentinel's number; no place beside it. -/
set_option linter.unusedVariables false
namespace Go.Proofs.Rcg
open Go Go.RowKit Go.Proofs.Rcn Go.Proofs.Rcd

/-- All sentinels stand where they are said to, each in a block of its own; errors.errorType is the type of errors. -/
structure ErrAll [EA] (w : World) : Prop where
  e1 : ErrAt 1 2 w
  e2 : ErrAt 2 1 w
  e3 : ErrAt 3 0 w
  e4 : ErrAt 4 4 w
  e5 : ErrAt 5 5 w
  e6 : ErrAt 6 6 w
  e7 : ErrAt 7 3 w
  e8 : ErrAt 8 7 w
  et : w.cell? ⟨8, 0, none⟩ = some (.iface 196 (.agg #[.pointer (some ⟨9, 32, none⟩)]))
  obj : ∀ c : Nat, 1 ≤ c → c ≤ 8 → ∃ cs t, w.heap[(EA.adr c).block]? = some (.cells cs t (0, 0))
  inj : ∀ c d : Nat, 1 ≤ c → c ≤ 8 → 1 ≤ d → d ≤ 8 → EA.adr c = EA.adr d → c = d
theorem ErrAll.below [EA] {w w1 : World} (h : ErrAll w) (hb : Below w.heap.size w w1) : ErrAll w1 :=
  ⟨h.e1.below hb, h.e2.below hb, h.e3.below hb, h.e4.below hb, h.e5.below hb, h.e6.below hb, h.e7.below hb, h.e8.below hb, cell_below hb h.et,
    fun c h1 h8 => by obtain ⟨cs, t, ho⟩ := h.obj c h1 h8; exact ⟨cs, t, (hb.block _ (Array.getElem?_eq_some_iff.1 ho).1).trans ho⟩, h.inj⟩

set_option maxRecDepth 100000 in
set_option maxHeartbeats 4000000 in
theorem code_some [EA] (c : Nat) (hc1 : 1 ≤ c) (hc8 : c ≤ 8) (w : World) (h : ErrAll w) :
    Calls Tryd.prog 86 #[.iface 210 (.pointer (some (EA.adr c)))] w fun e w' => e = .returned (.tuple #[.int .i64 c, .int .i64 (-1)]) ∧ Below w.heap.size w w' := by
  have HA := Lib.hid h
  clear h
  go_enter Tryd.func86, Tryd.ntmps86
  go_wp2_with fail
  refine (as_miss _ _ _ (HA.out.below (below_alloc (Below.refl _ _) _)).et).mono ?_
  rintro e w1 ⟨rfl, hb⟩
  have HW : Hid (ErrAll w1) := (HA.out.below (below_alloc (Below.refl _ _) _)).below hb
  have HB : Hid (Below w.heap.size w w1) := below_then (below_alloc (Below.refl _ _) _) hb
  clear hb
  have e1 := HW.out.e1.cell
  have e2 := HW.out.e2.cell
  have e3 := HW.out.e3.cell
  have e4 := HW.out.e4.cell
  have e5 := HW.out.e5.cell
  have e6 := HW.out.e6.cell
  have e7 := HW.out.e7.cell
  have e8 := HW.out.e8.cell
  have HC : Hid (∀ (W : World) (k : Nat), k < 8 → W.heap[w1.heap.size]? = some (.cells #[.iface 210 (.pointer (some (EA.adr 1))), .iface 210 (.pointer (some (EA.adr 2))), .iface 210 (.pointer (some (EA.adr 3))), .iface 210 (.pointer (some (EA.adr 4))), .iface 210 (.pointer (some (EA.adr 5))), .iface 210 (.pointer (some (EA.adr 6))), .iface 210 (.pointer (some (EA.adr 7))), .iface 210 (.pointer (some (EA.adr 8)))] 32 (0, 0)) →
      W.cell? ⟨w1.heap.size, k, none⟩ = some (.iface 210 (.pointer (some (EA.adr ((k + 1 : Nat) : Int)))))) := by
    intro W k hk hW
    rw [cell_of_row _ _ _ _ _ _ hW]
    match k, hk with
    | 0, _ | 1, _ | 2, _ | 3, _ | 4, _ | 5, _ | 6, _ | 7, _ => rfl
  have HJ : Hid (∀ d : Nat, 1 ≤ d → d ≤ 8 → EA.adr (d : Int) = EA.adr (c : Int) → d = c) := fun d h1 h2 h3 => HA.out.inj d c h1 h2 hc1 hc8 h3
  have HO : Hid (∃ cs t, w1.heap[(EA.adr (c : Int)).block]? = some (.cells cs t (0, 0))) := HW.out.obj c hc1 hc8
  generalize hA : EA.adr (c : Int) = A at *
  have HAc := Lib.hid hA
  clear hA
  go_wp2
  have HN := Lib.hid (heap_alloc_new w1 (.cells #[.iface 210 (.pointer (some (EA.adr 1))), .iface 210 (.pointer (some (EA.adr 2))), .iface 210 (.pointer (some (EA.adr 3))), .iface 210 (.pointer (some (EA.adr 4))), .iface 210 (.pointer (some (EA.adr 5))), .iface 210 (.pointer (some (EA.adr 6))), .iface 210 (.pointer (some (EA.adr 7))), .iface 210 (.pointer (some (EA.adr 8)))] 32))
  have HB2 := Lib.hid (below_then HB.out (below_alloc (Below.refl _ _) (.cells #[.iface 210 (.pointer (some (EA.adr 1))), .iface 210 (.pointer (some (EA.adr 2))), .iface 210 (.pointer (some (EA.adr 3))), .iface 210 (.pointer (some (EA.adr 4))), .iface 210 (.pointer (some (EA.adr 5))), .iface 210 (.pointer (some (EA.adr 6))), .iface 210 (.pointer (some (EA.adr 7))), .iface 210 (.pointer (some (EA.adr 8)))] 32)))
  have HW2 := Lib.hid (HW.out.below (below_alloc (Below.refl _ _) (.cells #[.iface 210 (.pointer (some (EA.adr 1))), .iface 210 (.pointer (some (EA.adr 2))), .iface 210 (.pointer (some (EA.adr 3))), .iface 210 (.pointer (some (EA.adr 4))), .iface 210 (.pointer (some (EA.adr 5))), .iface 210 (.pointer (some (EA.adr 6))), .iface 210 (.pointer (some (EA.adr 7))), .iface 210 (.pointer (some (EA.adr 8)))] 32)))
  generalize w1.alloc _ = w2 at HN HB2 HW2 ⊢
  clear e1 e2 e3 e4 e5 e6 e7 e8
  go_loop [3, 26] (fun a i => a = .int .i64 (-1) ∧ ∃ k : Nat, k + 1 ≤ c ∧ i = .int .i64 k) (fun _ i => 8 - (intOf i).toNat)
  case atStart => exact ⟨rfl, 0, by omega, rfl⟩
  case round =>
    obtain ⟨rfl, k, hk, rfl⟩ := hrel
    have hcell := HC.out w2 k (by omega) HN.out
    have hk8 : (k : Int) < 8 := by omega
    have hobj := HW2.out.obj (k + 1) (by omega) (by omega)
    have hobj2 := HW2.out.obj c hc1 hc8
    rw [HAc.out] at hobj2
    by_cases hkc : k + 1 = c
    · rw [hkc, HAc.out] at hcell
      clear hobj hobj2
      have HK := Lib.hid hkc
      clear hkc
      go_wp2_with (go_at_call 129; refine (is_same _ _).mono ?_; rintro e w' ⟨rfl, rfl⟩)
      go_ret2
      have := HK.out
      exact ⟨by rw [← this]; simp, HB2.out⟩
    · have hne : A ≠ EA.adr ((k + 1 : Nat) : Int) := fun h => hkc (HJ.out (k + 1) (by omega) (by omega) h.symm)
      generalize EA.adr ((k + 1 : Nat) : Int) = B at hcell hobj hne
      have HO1 := Lib.hid hobj
      have HO2 := Lib.hid hobj2
      have HK := Lib.hid hkc
      have HNE := Lib.hid hne
      clear hobj hobj2 hkc hne
      obtain ⟨cs1, t1, o1⟩ := HO1.out
      obtain ⟨cs2, t2, o2⟩ := HO2.out
      have O1 := Lib.hid o1
      have O2 := Lib.hid o2
      clear o1 o2
      go_wp2_with (go_at_call 129; refine (is_other _ _ _ _ _ _ _ HNE.out O2.out O1.out).mono ?_; rintro e w' ⟨rfl, rfl⟩)
      go_round
      case rel => exact ⟨rfl, k + 1, by have := HK.out; omega, by go_num⟩
      case measure => simp [intOf]; omega
theorem code_nil (w : World) : Calls Tryd.prog 86 #[.nilIface] w fun e w' => e = .returned (.tuple #[.int .i64 0, .int .i64 (-1)]) ∧ w = w' := by
  go_enter Tryd.func86, Tryd.ntmps86
  go_wp2
  go_ret2
  exact ⟨rfl, rfl⟩

/-- 'coded', as it is told. -/
def L2_coded.f (a0 : Option Int) (a1 : Int) : Option Bool := if (a0.getD 1 ≥ 1 ∧ a0.getD 1 ≤ 8) then some (decide (a0.getD 0 = a1)) else none
set_option maxRecDepth 100000 in
set_option maxHeartbeats 1000000 in
theorem L2_coded.calls [EA] (a0 : Option Int) (a1 : Int) (r : Bool) (w : World) (h : L2_coded.f a0 a1 = some r) (h9_ : ErrAll w) :
    Calls Tryd.prog 20 #[errW a0, .int .i64 a1] w fun e w' => e = .returned (.bool r) ∧ Below w.heap.size w w' := by
  have HA := Lib.hid h9_
  clear h9_
  unfold L2_coded.f at h
  split at h
  · rename_i hc
    simp only [Option.some.injEq] at h
    subst h
    cases a0 with
    | none =>
      have hd : Hid (decide ((0 : Int) = a1) = decide ((none : Option Int).getD 0 = a1)) := rfl
      rw [errW_none]
      by_cases he : (0 : Int) = a1
      · subst he
        go_enter Tryd.func20, Tryd.ntmps20
        go_wp2_with (go_at_call 86; refine (code_nil _).mono ?_; rintro e w' ⟨rfl, rfl⟩)
        go_ret
        exact ⟨rfl, Below.refl _ _⟩
      · have h1 : ((0 : Int) == a1) = false := by simpa using he
        have HE := Lib.hid he
        clear he
        go_enter Tryd.func20, Tryd.ntmps20
        go_wp2_with (go_at_call 86; refine (code_nil _).mono ?_; rintro e w' ⟨rfl, rfl⟩)
        go_ret
        exact ⟨by rw [decide_eq_false (by simpa using HE.out)]; rfl, Below.refl _ _⟩
    | some c0 =>
      simp only [Option.getD_some] at hc
      obtain ⟨c, rfl⟩ : ∃ c : Nat, c0 = c := ⟨c0.toNat, by omega⟩
      have hc1 : 1 ≤ c := by omega
      have hc8 : c ≤ 8 := by omega
      have HC := Lib.hid (And.intro hc1 hc8)
      clear hc hc1 hc8
      rw [errW_some, Option.getD_some]
      by_cases he : (c : Int) = a1
      · subst he
        go_enter Tryd.func20, Tryd.ntmps20
        go_wp2_with (go_at_call 86; refine (code_some c HC.out.1 HC.out.2 _ HA.out).mono ?_; rintro e w' ⟨rfl, hb⟩)
        go_ret
        exact ⟨by simp, hb⟩
      · have h1 : ((c : Int) == a1) = false := by simpa using he
        have HE := Lib.hid he
        clear he
        go_enter Tryd.func20, Tryd.ntmps20
        go_wp2_with (go_at_call 86; refine (code_some c HC.out.1 HC.out.2 _ HA.out).mono ?_; rintro e w' ⟨rfl, hb⟩)
        go_ret
        exact ⟨by rw [decide_eq_false HE.out]; rfl, hb⟩
  · cases h
end Go.Proofs.Rcg
