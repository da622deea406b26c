import Derived.Test.YtcalcnfppnbooaaDoorOxZk
import Derived.Test.YtcalcnfppnbooaaDoorOxQf
/- Package octagon: the value of a variable or its opposite; signs. -/
set_option linter.unusedVariables false
set_option linter.unusedSimpArgs false
namespace Go.Proofs.Rco
open Go Go.RowKit Go.Proofs.Rcn Go.Proofs.Rcg Go.Proofs.YtcalcnfppnbooaaDoor.Z Go.Proofs.YtcalcnfppnbooaaDoorW.PrintWords
theorem ovlit_any (C : Nat) (x N : Int) (W : World) (hC : W.cell? ⟨C, 0, none⟩ = some (.int .i64 N)) :
    Calls Tryd.prog 136 #[.int .i64 x, .pointer (some ⟨C, 0, none⟩)] W fun e w' => e = .returned (.bool (decide (x < 0 ∨ x ≥ N))) ∧ Below W.heap.size W w' := by
  by_cases h1 : x < 0
  · have h1' : decide (x < 0) = true := decide_eq_true h1
    rw [decide_eq_true (.inl h1)]
    go_enter Tryd.func136, Tryd.ntmps136
    go_wp2
    go_ret
    exact ⟨rfl, Below.refl _ _⟩
  · have h1' : decide (x < 0) = false := decide_eq_false h1
    by_cases h2 : N ≤ x
    · have h2' : decide (N ≤ x) = true := decide_eq_true h2
      rw [decide_eq_true (.inr h2)]
      go_enter Tryd.func136, Tryd.ntmps136
      go_wp2
      go_ret
      exact ⟨rfl, Below.refl _ _⟩
    · have h2' : decide (N ≤ x) = false := decide_eq_false h2
      rw [decide_eq_false (by omega)]
      go_enter Tryd.func136, Tryd.ntmps136
      go_wp2
      go_ret
      exact ⟨rfl, Below.refl _ _⟩
set_option maxRecDepth 100000 in
theorem ovar_any (A : Option Addr) (n c : Nat) (N : Int) (A2 : Option Addr) (n2 c2 : Nat) (l : List Int) (w : World) (hz : RInts w A2 n2 l) (hl : n2 ≤ 4611686018427387904) :
    Calls Tryd.prog 115 #[.agg #[.int .i64 N, .slice A n c], .slice A2 n2 c2] w fun e w' => e = .returned (.bool (!l.any fun x => decide (x < 0 ∨ x ≥ N))) ∧ Below w.heap.size w w' := by
  obtain ⟨w2, hw2⟩ : ∃ w2, w2 = w.alloc (.cells #[.int .i64 N, .slice A n c] 74) := ⟨_, rfl⟩
  have hb2 : Below w.heap.size w w2 := by rw [hw2]; exact Go.Proofs.Rcn.below_alloc (Below.refl _ _) _
  have b0 : w2.cell? ⟨w.heap.size, 0, none⟩ = some (.int .i64 N) := by rw [hw2]; simp [go_sem]
  have hs2 : w.heap.size < w2.heap.size := by rw [hw2]; simp
  have hc := icont_any 136 #[.pointer (some ⟨w.heap.size, 0, none⟩)] (enters_of Tryd.func136 (by kernel_rfl) rfl) (fun x => decide (x < 0 ∨ x ≥ N)) A2 n2 c2 l w2 (hz.below hb2) hl
    (fun W x hW => ovlit_any _ x N W ((hW.cell (p := ⟨w.heap.size, 0, none⟩) hs2).trans b0))
  have HB2 := Lib.hid hb2
  rw [hw2] at hc
  clear hb2 b0 hs2 hz
  obtain ⟨r, hr⟩ : ∃ r : Bool, r = l.any fun x => decide (x < 0 ∨ x ≥ N) := ⟨_, rfl⟩
  rw [← hr] at hc ⊢
  have HC := Lib.hid hc
  have HW2 := Lib.hid hw2
  clear hc hr hw2
  go_enter Tryd.func115, Tryd.ntmps115
  go_wp2_with fail
  refine HC.out.mono ?_
  rintro e w3 ⟨rfl, hb⟩
  have HB := Lib.hid hb
  clear hb
  cases r
  all_goals
    go_wp2
    go_ret
    refine ⟨rfl, ?_⟩
    have := HB.out
    rw [← HW2.out] at this
    exact below_then HB2.out this
theorem osign_any (x : Int) (W : World) :
    Calls Tryd.prog 137 #[.int .i64 x] W fun e w' => e = .returned (.bool (decide (x < -1 ∨ x > 1))) ∧ Below W.heap.size W w' := by
  by_cases h1 : x < -1
  · have h1' : decide (x < -1) = true := decide_eq_true h1
    rw [decide_eq_true (.inl h1)]
    go_enter Tryd.func137, Tryd.ntmps137
    go_wp2
    go_ret
    exact ⟨rfl, Below.refl _ _⟩
  · have h1' : decide (x < -1) = false := decide_eq_false h1
    by_cases h2 : 1 < x
    · have h2' : decide (1 < x) = true := decide_eq_true h2
      rw [decide_eq_true (.inr h2)]
      go_enter Tryd.func137, Tryd.ntmps137
      go_wp2
      go_ret
      exact ⟨rfl, Below.refl _ _⟩
    · have h2' : decide (1 < x) = false := decide_eq_false h2
      rw [decide_eq_false (by omega)]
      go_enter Tryd.func137, Tryd.ntmps137
      go_wp2
      go_ret
      exact ⟨rfl, Below.refl _ _⟩
set_option maxRecDepth 100000 in
theorem osigns_any (A2 : Option Addr) (n2 c2 : Nat) (l : List Int) (w : World) (hz : RInts w A2 n2 l) (hl : n2 ≤ 4611686018427387904) :
    Calls Tryd.prog 116 #[.slice A2 n2 c2] w fun e w' => e = .returned (.bool (!l.any fun x => decide (x < -1 ∨ x > 1))) ∧ Below w.heap.size w w' := by
  have hc := icont_any 137 #[] (enters_of Tryd.func137 (by kernel_rfl) rfl) (fun x => decide (x < -1 ∨ x > 1)) A2 n2 c2 l w hz hl (fun W x hW => osign_any x W)
  clear hz
  obtain ⟨r, hr⟩ : ∃ r : Bool, r = l.any fun x => decide (x < -1 ∨ x > 1) := ⟨_, rfl⟩
  rw [← hr] at hc ⊢
  have HC := Lib.hid hc
  clear hc hr
  go_enter Tryd.func116, Tryd.ntmps116
  go_wp2_with fail
  refine HC.out.mono ?_
  rintro e w3 ⟨rfl, hb⟩
  have HB := Lib.hid hb
  clear hb
  cases r
  all_goals
    go_wp2
    go_ret
    exact ⟨rfl, HB.out⟩
end Go.Proofs.Rco
