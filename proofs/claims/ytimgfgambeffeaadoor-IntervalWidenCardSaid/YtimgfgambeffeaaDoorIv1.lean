import Derived.Test.YtimgfgambeffeaaDoorIvs
import Derived.Test.YtimgfgambeffeaaDoorWd
import Derived.Test.YtimgfgambeffeaaDoorProg
import Derived.WalkKit
import Derived.WalkSpells
import Derived.WalkLawsBesides
import Derived.Outline
import Derived.Lib.Hide
import Derived.Deep.QuietTactic
import Derived.BigQuiet
import Derived.Deep.DeepCutAuto
import Derived.Deep.RegionHeld3
set_option linter.unusedVariables false
namespace Go.Proofs.Rcn
open Go Go.RowKit

abbrev ivV (a : Iv) : Value := .agg #[.bool a.down, .bool a.up, .int .i64 a.low, .int .i64 a.high]

/-- The errors that are handed on: no one of them is nil. -/
structure Errs (w : World) (bB sB : Addr) : Prop where
  bound : w.cell? ⟨1, 0, none⟩ = some (.iface 130 (.pointer (some bB)))
  shape : w.cell? ⟨0, 0, none⟩ = some (.iface 130 (.pointer (some sB)))
theorem Errs.below {w w1 : World} {bB sB : Addr} (h : Errs w bB sB) (hb : Below w.heap.size w w1) : Errs w1 bB sB := ⟨cell_below hb h.bound, cell_below hb h.shape⟩
theorem Errs.drew {w : World} {bB sB : Addr} (h : Errs w bB sB) : Errs w.drew bB sB := ⟨h.bound, h.shape⟩

set_option maxRecDepth 100000 in
set_option maxHeartbeats 1000000 in
theorem ivalid_ok (d u : Bool) (l h : Int) (w : World) (hv : ivValid ⟨d, u, l, h⟩ = 0) :
    Calls Tryd.prog 15 #[.agg #[.bool d, .bool u, .int .i64 l, .int .i64 h]] w fun e w' => e = .returned .nilIface ∧ Below w.heap.size w w' := by
  rw [ivValid_iff] at hv
  simp only [farB_iff] at hv
  obtain ⟨⟨h1, h2, h3⟩, ⟨h4, h5⟩, h6, h7⟩ := hv
  cases d <;> cases u
  · have h3' := h3 rfl rfl
    clear h1 h2 h3
    go_enter Tryd.func15, Tryd.ntmps15
    go_wp2
    go_ret
    exact ⟨rfl, by repeat (first | exact Below.refl _ _ | refine below_alloc ?_ _ | refine below_drew ?_ | refine below_drewN ?_ _)⟩
  · obtain rfl := h2 rfl
    clear h1 h2 h3
    go_enter Tryd.func15, Tryd.ntmps15
    go_wp2
    go_ret
    exact ⟨rfl, by repeat (first | exact Below.refl _ _ | refine below_alloc ?_ _ | refine below_drew ?_ | refine below_drewN ?_ _)⟩
  · obtain rfl := h1 rfl
    clear h1 h2 h3
    go_enter Tryd.func15, Tryd.ntmps15
    go_wp2
    go_ret
    exact ⟨rfl, by repeat (first | exact Below.refl _ _ | refine below_alloc ?_ _ | refine below_drew ?_ | refine below_drewN ?_ _)⟩
  · obtain rfl := h1 rfl
    obtain rfl := h2 rfl
    clear h1 h2 h3
    go_enter Tryd.func15, Tryd.ntmps15
    go_wp2
    go_ret
    exact ⟨rfl, by repeat (first | exact Below.refl _ _ | refine below_alloc ?_ _ | refine below_drew ?_ | refine below_drewN ?_ _)⟩

/-- An error that is not nil. -/
def SomeErr (e : Ending) : Prop := ∃ p, e = .returned (.iface 130 (.pointer (some p)))

set_option maxRecDepth 100000 in
set_option maxHeartbeats 1000000 in
theorem ivalid_bad (d u : Bool) (l h : Int) (bB sB : Addr) (w : World) (he : Errs w bB sB) (hv : ¬ ivValid ⟨d, u, l, h⟩ = 0) :
    Calls Tryd.prog 15 #[.agg #[.bool d, .bool u, .int .i64 l, .int .i64 h]] w fun e w' => SomeErr e ∧ Below w.heap.size w w' := by
  rw [ivValid_iff] at hv
  simp only [farB_iff] at hv
  obtain ⟨c1, c2⟩ := he
  have l1 := World.block_lt_of_cell? w _ c1
  have l2 := World.block_lt_of_cell? w _ c2
  simp only at l1 l2
  cases d <;> cases u <;> simp at hv
  all_goals
    have HV := Lib.hid hv
    clear hv
    go_enter Tryd.func15, Tryd.ntmps15
    go_wp2
    all_goals go_ret
    all_goals first
      | (exfalso; have h' := HV.out; omega)
      | exact ⟨⟨_, rfl⟩, by repeat (first | exact Below.refl _ _ | refine below_alloc ?_ _ | refine below_drew ?_ | refine below_drewN ?_ _)⟩

/-! ### two, join, within -/
set_option maxRecDepth 100000 in
set_option maxHeartbeats 1000000 in
theorem itwo_ok (d u : Bool) (l h : Int) (d' u' : Bool) (l' h' : Int) (w : World) (hv : ivValid ⟨d, u, l, h⟩ = 0) (hv' : ivValid ⟨d', u', l', h'⟩ = 0) :
    Calls Tryd.prog 62 #[.agg #[.bool d, .bool u, .int .i64 l, .int .i64 h], .agg #[.bool d', .bool u', .int .i64 l', .int .i64 h']] w fun e w' => e = .returned .nilIface ∧ Below w.heap.size w w' := by
  have HV := Lib.hid hv
  have HV' := Lib.hid hv'
  clear hv hv'
  go_enter Tryd.func62, Tryd.ntmps62
  go_wp2_with fail
  refine (ivalid_ok d u l h _ HV.out).mono ?_
  rintro e w1 ⟨rfl, hb1⟩
  obtain ⟨hc1, hf1⟩ := bcell hb1
  have hz1 := hb1.size
  simp at hz1
  go_wp2_with fail
  refine (ivalid_ok d' u' l' h' _ HV'.out).mono ?_
  rintro e w2 ⟨rfl, hb2⟩
  go_wp2
  go_ret
  exact ⟨rfl, below_then (below_then (below_alloc (below_alloc (Below.refl _ _) _) _) hb1) hb2⟩

set_option maxRecDepth 100000 in
set_option maxHeartbeats 1000000 in
theorem itwo_bad (d u : Bool) (l h : Int) (d' u' : Bool) (l' h' : Int) (bB sB : Addr) (w : World) (he : Errs w bB sB) (hv : ¬ (ivValid ⟨d, u, l, h⟩ = 0 ∧ ivValid ⟨d', u', l', h'⟩ = 0)) :
    Calls Tryd.prog 62 #[.agg #[.bool d, .bool u, .int .i64 l, .int .i64 h], .agg #[.bool d', .bool u', .int .i64 l', .int .i64 h']] w fun e w' => SomeErr e ∧ Below w.heap.size w w' := by
  by_cases h1 : ivValid ⟨d, u, l, h⟩ = 0
  · have h2 : ¬ ivValid ⟨d', u', l', h'⟩ = 0 := fun h2 => hv ⟨h1, h2⟩
    have HV := Lib.hid h1
    have HV' := Lib.hid h2
    have HE := Lib.hid he
    clear hv h1 h2 he
    go_enter Tryd.func62, Tryd.ntmps62
    go_wp2_with fail
    refine (ivalid_ok d u l h _ HV.out).mono ?_
    rintro e w1 ⟨rfl, hb1⟩
    obtain ⟨hc1, hf1⟩ := bcell hb1
    have hz1 := hb1.size
    simp at hz1
    go_wp2_with fail
    refine (ivalid_bad d' u' l' h' bB sB _ ((HE.out.below (below_alloc (below_alloc (Below.refl _ _) _) _)).below hb1) HV'.out).mono ?_
    rintro e w2 ⟨⟨p, rfl⟩, hb2⟩
    go_wp2
    go_ret
    exact ⟨⟨_, rfl⟩, below_then (below_then (below_alloc (below_alloc (Below.refl _ _) _) _) hb1) hb2⟩
  · have HV := Lib.hid h1
    have HE := Lib.hid he
    clear hv h1 he
    go_enter Tryd.func62, Tryd.ntmps62
    go_wp2_with fail
    refine (ivalid_bad d u l h bB sB _ (HE.out.below (below_alloc (below_alloc (Below.refl _ _) _) _)) HV.out).mono ?_
    rintro e w1 ⟨⟨p, rfl⟩, hb1⟩
    go_wp2
    go_ret
    exact ⟨⟨_, rfl⟩, below_then (below_alloc (below_alloc (Below.refl _ _) _) _) hb1⟩

end Go.Proofs.Rcn
