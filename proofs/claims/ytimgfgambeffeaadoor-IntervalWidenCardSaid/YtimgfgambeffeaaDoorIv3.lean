import Derived.Test.YtimgfgambeffeaaDoorIv2
set_option linter.unusedVariables false
set_option linter.unusedSimpArgs false
namespace Go.Proofs.Rcn
open Go Go.RowKit

def zeroIv : Iv := ⟨false, false, 0, 0⟩

set_option maxRecDepth 100000 in
set_option maxHeartbeats 1000000 in
theorem iJoin_ok (d u : Bool) (l k : Int) (d' u' : Bool) (l' k' : Int) (w : World) (hv : ivValid ⟨d, u, l, k⟩ = 0) (hv' : ivValid ⟨d', u', l', k'⟩ = 0) :
    Calls Tryd.prog 33 #[.agg #[.bool d, .bool u, .int .i64 l, .int .i64 k], .agg #[.bool d', .bool u', .int .i64 l', .int .i64 k']] w fun e w' =>
      e = .returned (.tuple #[ivV (ivJoin ⟨d, u, l, k⟩ ⟨d', u', l', k'⟩), .nilIface]) ∧ Below w.heap.size w w' := by
  have HV := Lib.hid hv
  have HV' := Lib.hid hv'
  clear hv hv'
  go_enter Tryd.func33, Tryd.ntmps33
  go_wp2_with fail
  refine (itwo_ok d u l k d' u' l' k' _ HV.out HV'.out).mono ?_
  rintro e w1 ⟨rfl, hb1⟩
  obtain ⟨hc1, hf1⟩ := bcell hb1
  have hz1 : w.heap.size + 1 + 1 < w1.heap.size := by have := hb1.size; simp at this; omega
  have hz0 : w.heap.size + 1 < w1.heap.size := by omega
  have hz00 : w.heap.size < w1.heap.size := by omega
  go_wp2_with fail
  refine (ijoin_any d u l k d' u' l' k' _).mono ?_
  rintro e w2 ⟨rfl, hb2⟩
  obtain ⟨hc2, hf2⟩ := bcell hb2
  have hz2 := hb2.size
  have hB := Lib.hid (below_then (below_then (below_alloc (below_alloc (below_alloc (Below.refl _ _) _) _) _) hb1) hb2)
  clear hb1 hb2
  generalize hJ : ivJoin ⟨d, u, l, k⟩ ⟨d', u', l', k'⟩ = J
  have HJ := Lib.hid hJ
  clear hJ
  go_wp2
  refine bodyPost_ret (v := .tuple #[ivV J, .nilIface]) (by simp [results, Tryd.results33, go_sem, hc2, hc1, hz1]) rfl ⟨by rw [HJ.out], ?_⟩
  repeat (first | exact hB.out | refine below_set ?_ (by simp; try omega) _)

set_option maxRecDepth 100000 in
set_option maxHeartbeats 1000000 in
theorem iJoin_bad (d u : Bool) (l k : Int) (d' u' : Bool) (l' k' : Int) (bB sB : Addr) (w : World) (he : Errs w bB sB) (hv : ¬ (ivValid ⟨d, u, l, k⟩ = 0 ∧ ivValid ⟨d', u', l', k'⟩ = 0)) :
    Calls Tryd.prog 33 #[.agg #[.bool d, .bool u, .int .i64 l, .int .i64 k], .agg #[.bool d', .bool u', .int .i64 l', .int .i64 k']] w fun e w' =>
      (∃ p, e = .returned (.tuple #[ivV zeroIv, .iface 130 (.pointer (some p))])) ∧ Below w.heap.size w w' := by
  have HV := Lib.hid hv
  have HE := Lib.hid he
  clear hv he
  go_enter Tryd.func33, Tryd.ntmps33
  go_wp2_with fail
  refine (itwo_bad d u l k d' u' l' k' bB sB _ (HE.out.below (below_alloc (below_alloc (below_alloc (Below.refl _ _) _) _) _)) HV.out).mono ?_
  rintro e w1 ⟨⟨p, rfl⟩, hb1⟩
  obtain ⟨hc1, hf1⟩ := bcell hb1
  have hz1 : w.heap.size + 1 + 1 < w1.heap.size := by have := hb1.size; simp at this; omega
  have hz0 : w.heap.size + 1 < w1.heap.size := by omega
  have hz00 : w.heap.size < w1.heap.size := by omega
  have hB := Lib.hid (below_then (below_alloc (below_alloc (below_alloc (Below.refl _ _) _) _) _) hb1)
  clear hb1
  go_wp2
  refine bodyPost_ret (v := .tuple #[ivV zeroIv, .iface 130 (.pointer (some p))]) (by simp [results, Tryd.results33, go_sem, zeroIv, hc1, hz1]) rfl ⟨⟨p, rfl⟩, ?_⟩
  repeat (first | exact hB.out | refine below_set ?_ (by simp; try omega) _)

set_option maxRecDepth 100000 in
set_option maxHeartbeats 1000000 in
theorem iWithin_ok (d u : Bool) (l k : Int) (d' u' : Bool) (l' k' : Int) (w : World) (hv : ivValid ⟨d, u, l, k⟩ = 0) (hv' : ivValid ⟨d', u', l', k'⟩ = 0) :
    Calls Tryd.prog 35 #[.agg #[.bool d, .bool u, .int .i64 l, .int .i64 k], .agg #[.bool d', .bool u', .int .i64 l', .int .i64 k']] w fun e w' =>
      e = .returned (.tuple #[.bool (ivWithin ⟨d, u, l, k⟩ ⟨d', u', l', k'⟩), .nilIface]) ∧ Below w.heap.size w w' := by
  have HV := Lib.hid hv
  have HV' := Lib.hid hv'
  clear hv hv'
  go_enter Tryd.func35, Tryd.ntmps35
  go_wp2_with fail
  refine (itwo_ok d u l k d' u' l' k' _ HV.out HV'.out).mono ?_
  rintro e w1 ⟨rfl, hb1⟩
  obtain ⟨hc1, hf1⟩ := bcell hb1
  have hz1 : w.heap.size + 1 < w1.heap.size := by have := hb1.size; simp at this; omega
  have hz00 : w.heap.size < w1.heap.size := by omega
  go_wp2_with fail
  refine (iwithin_any d u l k d' u' l' k' _).mono ?_
  rintro e w2 ⟨rfl, hb2⟩
  have hB := Lib.hid (below_then (below_then (below_alloc (below_alloc (Below.refl _ _) _) _) hb1) hb2)
  go_wp2
  go_ret2
  exact ⟨rfl, hB.out⟩

/-- A slice of whole numbers that is read. -/
def RInts (w : World) (A : Option Addr) (n : Nat) (xs : List Int) : Prop :=
  xs.length = n ∧ (0 < n → ∃ g o, A = some ⟨g, o, none⟩ ∧ ∀ j, j < n → w.cell? ⟨g, o + j, none⟩ = some (.int .i64 (xs.getD j 0)))
theorem RInts.below {w w1 : World} {A : Option Addr} {n : Nat} {xs : List Int} (h : RInts w A n xs) (hb : Below w.heap.size w w1) : RInts w1 A n xs :=
  ⟨h.1, fun hn => by
    obtain ⟨g, o, e, hc⟩ := h.2 hn
    exact ⟨g, o, e, fun j hj => cell_below hb (hc j hj)⟩⟩

def iv64 (xs : List Int) : List Value := xs.map fun x => .int .i64 x
theorem iv64_one (xs : List Int) : ∀ u ∈ iv64 xs, u.oneCell' = true := by
  intro u hu
  obtain ⟨x, _, rfl⟩ := List.mem_map.1 hu
  rfl
theorem info_int : (Tryd.prog.info? 3).map (fun i => (i.zero, i.size, i.bytes)) = some (some (.int .i64 0), 1, 8) := by kernel_rfl
theorem rints_own {w : World} {base n : Nat} {v : Value} {xs : List Int} (h : w.ownsRow base 3 1 v n (iv64 xs)) : ∃ A c, v = .slice A n c ∧ RInts w A n xs := by
  have hl : xs.length = n := by have := h.1; simp [iv64] at this; exact this
  rcases h.2 with ⟨rfl, rfl⟩ | ⟨g, cap, cur, rfl, _⟩
  · exact ⟨none, 0, rfl, hl, fun h => absurd h (by omega)⟩
  · refine ⟨_, cap, rfl, hl, fun hn => ⟨g, 0, rfl, fun j hj => ?_⟩⟩
    rw [World.ownsRow.cellAt h (0 + j) (by omega)]
    simp [iv64, List.getD_eq_getElem?_getD, List.getElem?_eq_getElem (show j < xs.length by omega)]

set_option maxRecDepth 100000 in
set_option maxHeartbeats 1000000 in
theorem ints_any (A : Option Addr) (n c : Nat) (xs : List Int) (w : World) (hx : RInts w A n xs) (hn : n ≤ 100000) :
    Calls Tryd.prog 41 #[.slice A n c] w fun e w' => ∃ A' c', e = .returned (.slice A' n c') ∧ w'.ownsRow w.heap.size 3 1 (.slice A' n c') n (iv64 xs) ∧ Below w.heap.size w w' := by
  obtain ⟨i0, hi, hz0, hz1, hz2⟩ := info_parts info_int
  rcases Nat.eq_zero_or_pos n with h0 | h0
  · subst h0
    obtain rfl : xs = [] := List.eq_nil_of_length_eq_zero hx.1
    clear hx
    cases A with
    | none =>
      go_enter Tryd.func41, Tryd.ntmps41
      go_wp2_with (at_builtin; refine wpList_append_own_none _ rfl (.tmp 4) (.tmp 5) 40 rfl w.heap.size 3 i0 1 Tryd.underlying40 hi hz1 (.slice none 0 0) 0 [] rfl (World.ownsRow_nil _ _ _ _) c rfl ?_)
      go_ret
      exact ⟨none, 0, rfl, World.ownsRow_nil _ _ _ _, Below.refl _ _⟩
    | some a =>
      go_enter Tryd.func41, Tryd.ntmps41
      go_wp2_with (at_builtin; refine wpList_append_own _ rfl (.tmp 4) (.tmp 5) 40 rfl w.heap.size 3 i0 (.int .i64 0) 1 8 Tryd.underlying40 hi hz0 hz1 hz2 rfl (by decide) (.slice none 0 0) 0 [] rfl (World.ownsRow_nil _ _ _ _) a 0 c [] rfl rfl (by simp) (by simp) (by simp [maxLen]) (by omega) (Nat.le_refl _) ?_)
      intro v' w1 hown hg hnil
      have hb1 : Below w.heap.size w w1 := (Below.refl _ _).grown hg (by simp) (by simp [Value.ownBlock])
      obtain ⟨A', c', rfl, _⟩ := rints_own (xs := []) hown
      have HO := Lib.hid hown
      have HB := Lib.hid hb1
      clear hown hb1 hg hnil
      go_wp2
      go_ret
      exact ⟨A', c', rfl, HO.out, HB.out⟩
  · obtain ⟨g, o, rfl, hc⟩ := hx.2 h0
    have hl := hx.1
    have hnews : ∀ j u, (iv64 xs)[j]? = some u → w.cell? ((⟨g, o, none⟩ : Addr).add j) = some u := by
      intro j u hu
      have hj : j < xs.length := by
        have := (List.getElem?_eq_some_iff.1 hu).1
        simpa [iv64] using this
      rw [Addr.add_lit, hc j (by omega), ← hu]
      simp [iv64, List.getD_eq_getElem?_getD, List.getElem?_eq_getElem hj]
    have HC := Lib.hid hnews
    have HL := Lib.hid hl
    clear hc hl hx hnews
    go_enter Tryd.func41, Tryd.ntmps41
    go_wp2_with (at_builtin; refine wpList_append_own _ rfl (.tmp 4) (.tmp 5) 40 rfl w.heap.size 3 i0 (.int .i64 0) 1 8 Tryd.underlying40 hi hz0 hz1 hz2 rfl (by decide) (.slice none 0 0) 0 [] rfl (World.ownsRow_nil _ _ _ _) ⟨g, o, none⟩ n c (iv64 xs) rfl ?c1 HC.out (iv64_one xs) ?c2 ?c3 (Nat.le_refl _) ?_)
    case c1 => have := HL.out; simp [iv64, this]
    case c2 => simp only [maxLen]; omega
    case c3 => omega
    intro v' w1 hown hg hnil
    have hb1 : Below w.heap.size w w1 := (Below.refl _ _).grown hg (by simp) (by simp [Value.ownBlock])
    obtain ⟨A', c', rfl, _⟩ := rints_own hown
    have HO := Lib.hid hown
    have HB := Lib.hid hb1
    clear hown hb1 hg hnil
    go_wp2
    go_ret
    exact ⟨A', c', rfl, HO.out, HB.out⟩
end Go.Proofs.Rcn
