import Derived.Test.YtjpboodkmhikpaaDoorIv5
import Derived.Test.YtjpboodkmhikpaaDoorIv8
import Derived.Test.YtjpboodkmhikpaaDoorOpens
import Derived.Deep.LoopGhost
set_option linter.unusedVariables false
set_option linter.unusedSimpArgs false
namespace Go.Proofs.Rcn
open Go Go.RowKit

/-- What stands in the law's own first block. -/
structure SW (w : World) (a : Iv) (wr : World) : Prop where
  below : Below w.heap.size w wr
  size : w.heap.size < wr.heap.size
  ca : Cells4 wr w.heap.size a
  fa : Free4 wr w.heap.size
theorem Cells4.below {w w1 : World} {p : Nat} {o : Iv} (h : Cells4 w p o) (hb : Below w.heap.size w w1) : Cells4 w1 p o :=
  ⟨cell_below hb h.1, cell_below hb h.2.1, cell_below hb h.2.2.1, cell_below hb h.2.2.2⟩
theorem Free4.below {w w1 : World} {p : Nat} (h : Free4 w p) (hp : p < w.heap.size) (hb : Below w.heap.size w w1) : Free4 w1 p :=
  ⟨((bcell hb).2 _ _ hp).trans h.1, ((bcell hb).2 _ _ hp).trans h.2.1, ((bcell hb).2 _ _ hp).trans h.2.2.1, ((bcell hb).2 _ _ hp).trans h.2.2.2⟩
theorem SW.next {w W w1 : World} {a : Iv} (h : SW w a W) (hb : Below W.heap.size W w1) : SW w a w1 :=
  ⟨below_then h.below hb, Nat.lt_of_lt_of_le h.size hb.size, h.ca.below hb, h.fa.below h.size hb⟩
/-- What is read of a row of intervals, and of the block of the call's own: what all these loads meet. -/
abbrev S8 (w : World) (a x : Iv) (g o : Nat) (w' : World) : Prop := SW w a w' ∧ (w'.cell? ⟨w.heap.size, 0, none⟩ = some (.bool a.down) ∧ w'.cell? ⟨w.heap.size, 1, none⟩ = some (.bool a.up) ∧ w'.cell? ⟨w.heap.size, 2, none⟩ = some (.int .i64 a.low) ∧ w'.cell? ⟨w.heap.size, 3, none⟩ = some (.int .i64 a.high)) ∧
  (w'.cell? ⟨g, o, none⟩ = some (.bool x.down) ∧ w'.cell? ⟨g, o + 1, none⟩ = some (.bool x.up) ∧ w'.cell? ⟨g, o + 2, none⟩ = some (.int .i64 x.low) ∧ w'.cell? ⟨g, o + 3, none⟩ = some (.int .i64 x.high))
theorem S8.next {w W w1 : World} {a x : Iv} {g o : Nat} (h : S8 w a x g o W) (hb : Below W.heap.size W w1) : S8 w a x g o w1 :=
  ⟨h.1.next hb, ⟨cell_below hb h.2.1.1, cell_below hb h.2.1.2.1, cell_below hb h.2.1.2.2.1, cell_below hb h.2.1.2.2.2⟩, cell_below hb h.2.2.1, cell_below hb h.2.2.2.1, cell_below hb h.2.2.2.2.1, cell_below hb h.2.2.2.2.2⟩
theorem S8.drew {w W : World} {a x : Iv} {g o : Nat} (h : S8 w a x g o W) : S8 w a x g o W.drew := S8.next h (below_drew (Below.refl _ _))
theorem S8.alloc {w W : World} {a x : Iv} {g o : Nat} (h : S8 w a x g o W) (ob : Obj) : S8 w a x g o (W.alloc ob) := S8.next h (below_alloc (Below.refl _ _) ob)
theorem SW.drew {w W : World} {a : Iv} (h : SW w a W) : SW w a W.drew := h.next (below_drew (Below.refl _ _))
theorem SW.alloc {w W : World} {a : Iv} (h : SW w a W) (o : Obj) : SW w a (W.alloc o) := h.next (below_alloc (Below.refl _ _) o)

theorem SW.set {w W : World} {a : Iv} (h : SW w a W) {b : Nat} (hb : w.heap.size < b) (i : Nat) (u : Value) : SW w a (W.setCell ⟨b, i, none⟩ u) :=
  ⟨below_set h.below (by simp; omega) _, by simpa using h.size, h.ca.kept (by omega), h.fa.kept⟩
theorem S8.set {w W : World} {a x : Iv} {g o : Nat} (h : S8 w a x g o W) {b : Nat} (hb : w.heap.size < b) (hg : g ≠ b) (i : Nat) (u : Value) : S8 w a x g o (W.setCell ⟨b, i, none⟩ u) :=
  have k := fun (q : Nat) (v : Value) (hq : W.cell? ⟨w.heap.size, q, none⟩ = some v) => (cell_two W b w.heap.size i q u (fun e => by omega)).trans hq
  have k' := fun (q : Nat) (v : Value) (hq : W.cell? ⟨g, q, none⟩ = some v) => (cell_two W b g i q u (fun e => hg e.1)).trans hq
  ⟨h.1.set hb i u, ⟨k _ _ h.2.1.1, k _ _ h.2.1.2.1, k _ _ h.2.1.2.2.1, k _ _ h.2.1.2.2.2⟩, k' _ _ h.2.2.1, k' _ _ h.2.2.2.1, k' _ _ h.2.2.2.2.1, k' _ _ h.2.2.2.2.2⟩
theorem S8.turn {w W : World} {a x J : Iv} {g o b : Nat} (h : S8 w a x g o W) (c : Cells4 W b J) : S8 w a J b 0 W := ⟨h.1, h.2.1, c.1, c.2.1, c.2.2.1, c.2.2.2⟩
theorem cells4_new (w : World) (J : Iv) (t : TypeId) : Cells4 (w.alloc (.cells #[.bool J.down, .bool J.up, .int .i64 J.low, .int .i64 J.high] t)) w.heap.size J := by
  refine ⟨?_, ?_, ?_, ?_⟩ <;> rw [cell_new] <;> rfl
theorem cells4_set {W : World} {b : Nat} {Z : Iv} (h : Cells4 W b Z) (J : Iv) :
    Cells4 ((((W.setCell ⟨b, 0, none⟩ (.bool J.down)).setCell ⟨b, 1, none⟩ (.bool J.up)).setCell ⟨b, 2, none⟩ (.int .i64 J.low)).setCell ⟨b, 3, none⟩ (.int .i64 J.high)) b J := by
  have o := fun (w : World) (i j : Nat) (u v : Value) (hij : j ≠ i) (hc : w.cell? ⟨b, j, none⟩ = some v) => (cell_two w b b i j u (fun e => hij e.2)).trans hc
  have y := fun (w : World) (i : Nat) (u v : Value) (hc : w.cell? ⟨b, i, none⟩ = some v) => World.cell?_setCell_same' w ⟨b, i, none⟩ u (by rw [hc]; rfl)
  exact ⟨o _ 3 0 _ _ (by omega) (o _ 2 0 _ _ (by omega) (o _ 1 0 _ _ (by omega) (y _ 0 _ _ h.1))),
    o _ 3 1 _ _ (by omega) (o _ 2 1 _ _ (by omega) (y _ 1 _ _ (o _ 0 1 _ _ (by omega) h.2.1))),
    o _ 3 2 _ _ (by omega) (y _ 2 _ _ (o _ 1 2 _ _ (by omega) (o _ 0 2 _ _ (by omega) h.2.2.1))),
    y _ 3 _ _ (o _ 2 3 _ _ (by omega) (o _ 1 3 _ _ (by omega) (o _ 0 3 _ _ (by omega) h.2.2.2)))⟩
theorem cells4_old {W w1 : World} {t : TypeId} (hb : Below (W.alloc (.cells #[.bool false, .bool false, .int .i64 0, .int .i64 0] t)).drew.heap.size (W.alloc (.cells #[.bool false, .bool false, .int .i64 0, .int .i64 0] t)).drew w1) : Cells4 w1 W.heap.size zeroIv :=
  ((cells4_new W zeroIv t).below (below_drew (Below.refl _ _))).below hb
theorem SW.put {w W : World} {a : Iv} (h : SW w a W) (J : Iv) :
    SW w J ((((W.setCell ⟨w.heap.size, 0, none⟩ (.bool J.down)).setCell ⟨w.heap.size, 1, none⟩ (.bool J.up)).setCell ⟨w.heap.size, 2, none⟩ (.int .i64 J.low)).setCell ⟨w.heap.size, 3, none⟩ (.int .i64 J.high)) :=
  ⟨below_set (below_set (below_set (below_set h.below (Nat.le_refl _) _) (Nat.le_refl _) _) (Nat.le_refl _) _) (Nat.le_refl _) _, by simpa using h.size, cells4_set h.ca J, h.fa.kept.kept.kept.kept⟩
theorem iJoin_ex (d u : Bool) (l k : Int) (d' u' : Bool) (l' k' : Int) (w : World) (hv : ivValid ⟨d, u, l, k⟩ = 0) (hv' : ivValid ⟨d', u', l', k'⟩ = 0) :
    Calls Tryd.prog 26 #[.agg #[.bool d, .bool u, .int .i64 l, .int .i64 k], .agg #[.bool d', .bool u', .int .i64 l', .int .i64 k']] w fun e w' =>
      ∃ J, e = .returned (.tuple #[ivV J, .nilIface]) ∧ Hid (J = ivJoin ⟨d, u, l, k⟩ ⟨d', u', l', k'⟩) ∧ Below w.heap.size w w' :=
  (iJoin_ok d u l k d' u' l' k' w hv hv').mono fun e w' h => ⟨_, h.1, rfl, h.2⟩

theorem ints_ex (A : Option Addr) (n c : Nat) (xs : List Int) (w : World) (hx : RInts w A n xs) (hn : n ≤ 100000) :
    Calls Tryd.prog 28 #[.slice A n c] w fun e w' => ∃ A' c', e = .returned (.slice A' n c') ∧ Hid (RInts w' A' n xs) ∧ Below w.heap.size w w' :=
  (ints_any A n c xs w hx hn).mono fun e w' h => by
    obtain ⟨A', c', he, ho, hb⟩ := h
    obtain ⟨A2, c2, e2, hr⟩ := rints_own ho
    simp only [Value.slice.injEq] at e2
    obtain ⟨rfl, _, rfl⟩ := e2
    exact ⟨A', c', he, hr, hb⟩
theorem iWiden_ex (d u : Bool) (l k : Int) (b : Iv) (A : Option Addr) (n c : Nat) (xs : List Int) (w : World) (hv : ivValid ⟨d, u, l, k⟩ = 0) (hv' : ivValid b = 0)
    (hx : RInts w A n xs) (hn : n ≤ 20) (hf : ∀ j, j < n → farB (xs.getD j 0) = false) :
    Calls Tryd.prog 27 #[.agg #[.bool d, .bool u, .int .i64 l, .int .i64 k], .agg #[.bool b.down, .bool b.up, .int .i64 b.low, .int .i64 b.high], .slice A n c] w fun e w' =>
      ∃ V, e = .returned (.tuple #[ivV V, .nilIface]) ∧ Hid (V = ivWiden ⟨d, u, l, k⟩ b xs) ∧ Below w.heap.size w w' :=
  (iWiden_ok d u l k b.down b.up b.low b.high A n c xs w hv hv' hx hn hf).mono fun e w' h => ⟨_, h.1, rfl, h.2⟩

set_option maxRecDepth 100000 in
set_option maxHeartbeats 4000000 in
theorem stays_any (d u : Bool) (l k : Int) (AL : Option Addr) (n cl : Nat) (ivs : List Iv) (AS : Option Addr) (m cs : Nat) (stops : List Int) (bB sB : Addr) (w : World)
    (hL : RIvs w AL n ivs) (hS : RInts w AS m stops) (he : Errs w bB sB) (hn : n ≤ maxLen) (hm : m ≤ maxLen) :
    Calls Tryd.prog 5 #[.agg #[.bool d, .bool u, .int .i64 l, .int .i64 k], .slice AL n cl, .slice AS m cs] w fun e w' => e = .returned (.bool true) ∧ Below w.heap.size w w' := by
  unfold maxLen at hn hm
  have HL := Lib.hid hL
  have HS := Lib.hid hS
  have HE := Lib.hid he
  clear hL hS he
  by_cases hn60 : n ≤ 60
  case neg =>
    have h1 : (60 : Int) < (n : Int) := by omega
    go_enter Tryd.func5, Tryd.ntmps5
    go_wp2_with (go_at_call 25; refine (three_any _).mono ?_; rintro e w1 ⟨rfl, hb1⟩)
    go_ret
    exact ⟨rfl, below_then (below_alloc (Below.refl _ _) _) hb1⟩
  by_cases hm20 : m ≤ 20
  case neg =>
    have h1 : (20 : Int) < (m : Int) := by omega
    have h2 : (n : Int) ≤ 60 := by omega
    go_enter Tryd.func5, Tryd.ntmps5
    go_wp2_with (go_at_call 25; refine (three_any _).mono ?_; rintro e w1 ⟨rfl, hb1⟩)
    go_ret
    exact ⟨rfl, below_then (below_alloc (Below.refl _ _) _) hb1⟩
  have h1 : (n : Int) ≤ 60 := by omega
  have h2 : (m : Int) ≤ 20 := by omega
  go_enter Tryd.func5, Tryd.ntmps5
  go_wp2_with (go_at_call 25; refine (three_any _).mono ?_; rintro e w1 ⟨rfl, hb1⟩)
  have H0 : SW w ⟨d, u, l, k⟩ w1 := by
    obtain ⟨hc1, hf1⟩ := bcell hb1
    refine ⟨below_then (below_alloc (Below.refl _ _) _) hb1, by have := hb1.size; simp at this; omega, ?_, ?_⟩
    all_goals refine ⟨?_, ?_, ?_, ?_⟩ <;> simp [go_sem, hc1, hf1]
  have h0 := left_le stops ⟨d, u, l, k⟩
  have hsl := HS.out.1
  go_loopg [8, 9, 10, 11, 12] (n + 1) (fun gk c i p e q wr => ∃ (j ch : Nat) (a : Iv), j ≤ n ∧ n + 1 = j + gk ∧ i = .int .i64 j ∧ c = .int .i64 ch ∧ Hid (ch + leftLow stops a + leftHigh stops a ≤ 2 * m + 2 ∧ ch ≤ j) ∧ Hid (SW w a wr))
  case atStart => exact ⟨0, 0, ⟨d, u, l, k⟩, Nat.zero_le _, by omega, rfl, rfl, ⟨by omega, by omega⟩, H0⟩
  case round =>
    obtain ⟨j, ch, a, hj, hgk, rfl, rfl, HC, HW⟩ := hrel
    by_cases hlt : j < n
    case neg =>
      obtain rfl : j = n := by omega
      have hch : (ch : Int) ≤ 2 * m + 2 := by have := HC.out.1; omega
      go_wp2
      go_ret
      exact ⟨rfl, HW.out.below⟩
    obtain ⟨g, o, rfl, hx⟩ := HL.out.2 (by omega)
    obtain ⟨x0, x1, x2, x3⟩ := hx j hlt
    have y0 := cell_below HW.out.below x0
    have y1 := cell_below HW.out.below x1
    have y2 := cell_below HW.out.below x2
    have y3 := cell_below HW.out.below x3
    clear x0 x1 x2 x3 hx
    generalize ivs.getD j zeroIv = x at *
    obtain ⟨ad, au, al, ak⟩ := a
    obtain ⟨xd, xu, xl, xk⟩ := x
    have z := HW.out.ca
    obtain ⟨z0, z1, z2, z3⟩ := z
    simp only at y0 y1 y2 y3 z0 z1 z2 z3
    have hS8 : Hid (S8 w ⟨ad, au, al, ak⟩ ⟨xd, xu, xl, xk⟩ g (o + j * 4) wr) := ⟨HW.out, ⟨z0, z1, z2, z3⟩, y0, y1, y2, y3⟩
    by_cases hv : ivValid ⟨ad, au, al, ak⟩ = 0 ∧ ivValid ⟨xd, xu, xl, xk⟩ = 0
    case neg =>
      have HVB := Lib.hid hv
      clear hv
      have hgl : g < wr.heap.size := World.block_lt_of_cell? wr _ y0
      have hwl := HW.out.size
      have hA := Lib.hid (S8.drew hS8.out)
      have hgb : g ≠ wr.heap.size := by omega
      go_upto_region 8 with fail
      go_cut [11] (fun e wc => Below w.heap.size w wc ∧ ∃ p, e = .iface 167 (.pointer (some p)))
      case first =>
        go_region_held3 (fun w' => S8 w ⟨ad, au, al, ak⟩ ⟨xd, xu, xl, xk⟩ g (o + j * 4) w') (first
          | exact hA.out
          | exact S8.alloc hA.out _
          | exact S8.next hA.out (by assumption)
          | exact S8.alloc (S8.next hA.out (by assumption)) _
          | exact S8.next (S8.alloc hA.out _) (by assumption)
          | exact S8.set (S8.set (S8.set (S8.set (S8.next (S8.alloc hA.out _) (by assumption)) hwl hgb _ _) hwl hgb _ _) hwl hgb _ _) hwl hgb _ _)
          ((go_at_call 26; refine (iJoin_bad _ _ _ _ _ _ _ _ bB sB _ (HE.out.below (SW.below (And.left (by assumption : S8 w ⟨ad, au, al, ak⟩ ⟨xd, xu, xl, xk⟩ g (o + j * 4) _)))) HVB.out).mono ?_; rintro e w1 ⟨⟨p, rfl⟩, hb1⟩; obtain ⟨hc1, hf1⟩ := bcell hb1; have hz1 : wr.heap.size ≤ w1.heap.size := Nat.le_trans (by simp) hb1.size))
        all_goals (go_wp2_with fail; go_meet)
        all_goals exact ⟨SW.below (And.left (by assumption)), p, rfl⟩
      case rest =>
        obtain ⟨hB, p, rfl⟩ := hcut
        have HB := Lib.hid hB
        clear hB
        go_wp2
        go_ret
        exact ⟨rfl, HB.out⟩
    obtain ⟨hva, hvx⟩ := hv
    have HVA := Lib.hid hva
    have HVX := Lib.hid hvx
    clear hva hvx
    go_upto_region 8 with fail
    go_cut [10, 11] (fun p e wc => ∃ b, p = .pointer (some ⟨b, 0, none⟩) ∧ e = .nilIface ∧ wr.heap.size ≤ b ∧ b < wc.heap.size ∧ ∃ J, Hid (J = ivJoin ⟨ad, au, al, ak⟩ ⟨xd, xu, xl, xk⟩) ∧ S8 w ⟨ad, au, al, ak⟩ J b 0 wc)
    case first =>
      have hgl : g < wr.heap.size := World.block_lt_of_cell? wr _ y0
      have hwl := HW.out.size
      have hA := Lib.hid (S8.drew hS8.out)
      have hgb : g ≠ wr.heap.size := by omega
      go_region_held3 (fun w' => S8 w ⟨ad, au, al, ak⟩ ⟨xd, xu, xl, xk⟩ g (o + j * 4) w') (first
        | exact hA.out
        | exact S8.alloc hA.out _
        | exact S8.next hA.out (by assumption)
        | exact S8.alloc (S8.next hA.out (by assumption)) _
        | exact S8.next (S8.alloc hA.out _) (by assumption)
        | exact S8.set (S8.set (S8.set (S8.set (S8.next (S8.alloc hA.out _) (by assumption)) hwl hgb _ _) hwl hgb _ _) hwl hgb _ _) hwl hgb _ _)
        ((go_at_call 26; refine (iJoin_ex _ _ _ _ _ _ _ _ _ HVA.out HVX.out).mono ?_; rintro e w1 ⟨J, rfl, HJ, hb1⟩; obtain ⟨hc1, hf1⟩ := bcell hb1; have hz1 : wr.heap.size ≤ w1.heap.size := Nat.le_trans (by simp) hb1.size))
      all_goals (go_wp2_with fail; go_meet)
      all_goals first
        | exact ⟨_, rfl, rfl, hz1, by simp, J, HJ, S8.turn (by assumption) (cells4_new _ _ _)⟩
        | exact ⟨_, rfl, rfl, Nat.le_refl _, by have := hb1.size; simp at this ⊢; omega, J, HJ, S8.turn (by assumption) (cells4_set (cells4_old hb1) J)⟩
    case rest =>
      obtain ⟨b, rfl, rfl, hbw, hbl, J, HJ, H8⟩ := hcut
      have HVJ : Hid (ivValid J = 0) := by show _ = _; rw [HJ.out]; exact join_valid HVA.out HVX.out
      have hwl := HW.out.size
      have hA := Lib.hid (S8.drew H8)
      clear H8 hS8 y0 y1 y2 y3 z0 z1 z2 z3 HW
      have hbl' : w.heap.size < b := by omega
      by_cases hf : ∀ q, q < m → farB (stops.getD q 0) = false
      case neg =>
        have HF := Lib.hid hf
        clear hf
        go_upto_region 11 with fail
        go_cut [11] (fun e wd => Below w.heap.size w wd ∧ ∃ p, e = .iface 167 (.pointer (some p)))
        case first =>
          go_region_held3 (fun w' => S8 w ⟨ad, au, al, ak⟩ J b 0 w') (first
            | exact hA.out
            | exact S8.alloc hA.out _
            | exact S8.next hA.out (by assumption)
            | exact S8.alloc (S8.next hA.out (by assumption)) _
            | exact S8.next (S8.alloc hA.out _) (by assumption)
            | exact S8.next (S8.next hA.out (by assumption)) (by assumption)
            | exact S8.next (S8.next (S8.alloc hA.out _) (by assumption)) (by assumption)
            | exact S8.next (S8.alloc (S8.next hA.out (by assumption)) _) (by assumption)
            | exact S8.alloc (S8.next (S8.next hA.out (by assumption)) (by assumption)) _
            | exact S8.set (S8.set (S8.set (S8.set (S8.next (S8.next (S8.alloc hA.out _) (by assumption)) (by assumption)) (by omega) (by omega) _ _) (by omega) (by omega) _ _) (by omega) (by omega) _ _) (by omega) (by omega) _ _
            | exact S8.set (S8.set (S8.set (S8.set (S8.next (S8.alloc (S8.next hA.out (by assumption)) _) (by assumption)) (by omega) (by omega) _ _) (by omega) (by omega) _ _) (by omega) (by omega) _ _) (by omega) (by omega) _ _)
            (first
            | (go_at_call 28; refine (ints_ex _ _ _ _ _ (HS.out.below (SW.below (And.left (by assumption : S8 w ⟨ad, au, al, ak⟩ J b 0 _)))) (by omega)).mono ?_; rintro e w1 ⟨A1, c1, rfl, hr, hb1⟩; obtain ⟨hc1, hf1⟩ := bcell hb1; have hz1 : wc.heap.size ≤ w1.heap.size := Nat.le_trans (by simp) hb1.size; try (have hz1s : wc.heap.size < w1.heap.size := by (have := hb1.size; simp at this; omega)))
            | (go_at_call 27; refine (iWiden_bad _ _ _ _ J.down J.up J.low J.high _ _ _ _ bB sB _ (HE.out.below (SW.below (And.left (by assumption : S8 w ⟨ad, au, al, ak⟩ J b 0 _)))) HVA.out HVJ.out (by first | exact hr.out | exact hr.out.below (below_alloc (Below.refl _ _) _)) hm20 HF.out).mono ?_; rintro e w2 ⟨⟨p, rfl⟩, hb2⟩; obtain ⟨hc2, hf2⟩ := bcell hb2; have hz2 : w1.heap.size ≤ w2.heap.size := Nat.le_trans (by simp) hb2.size))
          all_goals (go_wp2_with fail; go_meet)
          all_goals exact ⟨SW.below (And.left (by assumption)), p, rfl⟩
        case rest =>
          obtain ⟨hB, p, rfl⟩ := hcut
          have HB := Lib.hid hB
          clear hB
          go_wp2
          go_ret
          exact ⟨rfl, HB.out⟩
      have HF := Lib.hid hf
      clear hf
      go_upto_region 11 with fail
      go_cut [11, 12] (fun e p wd => ∃ b2, e = .nilIface ∧ p = .pointer (some ⟨b2, 0, none⟩) ∧ wc.heap.size ≤ b2 ∧ b2 < wd.heap.size ∧ ∃ V, Hid (V = ivWiden ⟨ad, au, al, ak⟩ J stops) ∧ Hid (S8 w ⟨ad, au, al, ak⟩ J b 0 wd ∧ Cells4 wd b2 V))
      case first =>
        go_region_held3 (fun w' => S8 w ⟨ad, au, al, ak⟩ J b 0 w') (first
          | exact hA.out
          | exact S8.alloc hA.out _
          | exact S8.next hA.out (by assumption)
          | exact S8.alloc (S8.next hA.out (by assumption)) _
          | exact S8.next (S8.alloc hA.out _) (by assumption)
          | exact S8.next (S8.next hA.out (by assumption)) (by assumption)
          | exact S8.next (S8.next (S8.alloc hA.out _) (by assumption)) (by assumption)
          | exact S8.next (S8.alloc (S8.next hA.out (by assumption)) _) (by assumption)
          | exact S8.alloc (S8.next (S8.next hA.out (by assumption)) (by assumption)) _
          | exact S8.set (S8.set (S8.set (S8.set (S8.next (S8.next (S8.alloc hA.out _) (by assumption)) (by assumption)) (by omega) (by omega) _ _) (by omega) (by omega) _ _) (by omega) (by omega) _ _) (by omega) (by omega) _ _
          | exact S8.set (S8.set (S8.set (S8.set (S8.next (S8.alloc (S8.next hA.out (by assumption)) _) (by assumption)) (by omega) (by omega) _ _) (by omega) (by omega) _ _) (by omega) (by omega) _ _) (by omega) (by omega) _ _)
          (first
          | (go_at_call 28; refine (ints_ex _ _ _ _ _ (HS.out.below (SW.below (And.left (by assumption : S8 w ⟨ad, au, al, ak⟩ J b 0 _)))) (by omega)).mono ?_; rintro e w1 ⟨A1, c1, rfl, hr, hb1⟩; obtain ⟨hc1, hf1⟩ := bcell hb1; have hz1 : wc.heap.size ≤ w1.heap.size := Nat.le_trans (by simp) hb1.size; try (have hz1s : wc.heap.size < w1.heap.size := by (have := hb1.size; simp at this; omega)))
          | (go_at_call 27; refine (iWiden_ex _ _ _ _ J _ _ _ _ _ HVA.out HVJ.out (by first | exact hr.out | exact hr.out.below (below_alloc (Below.refl _ _) _)) hm20 HF.out).mono ?_; rintro e w2 ⟨V, rfl, HV, hb2⟩; obtain ⟨hc2, hf2⟩ := bcell hb2; have hz2 : w1.heap.size ≤ w2.heap.size := Nat.le_trans (by simp) hb2.size))
        all_goals (go_wp2_with fail; go_meet)
        all_goals first
          | exact ⟨_, rfl, rfl, Nat.le_trans hz1 hz2, by simp, V, HV, ⟨by assumption, cells4_new _ _ _⟩⟩
          | exact ⟨_, rfl, rfl, hz1, by have := hb2.size; simp at this ⊢; omega, V, HV, ⟨by assumption, cells4_set ((cells4_new w1 zeroIv _).below hb2) V⟩⟩
          | exact ⟨_, rfl, rfl, Nat.le_refl _, by have := hb2.size; simp at this ⊢; omega, V, HV, ⟨by assumption, cells4_set ((cells4_old hb1).below hb2) V⟩⟩
      case rest =>
        obtain ⟨b2, rfl, rfl, hb2, hbl2, V, HV, H9⟩ := hcut
        have z := H9.out.1.2.1
        have y := H9.out.1.2.2
        have x := H9.out.2
        have f := H9.out.1.1.fa
        obtain ⟨z0, z1, z2, z3⟩ := z
        obtain ⟨y0, y1, y2, y3⟩ := y
        obtain ⟨x0, x1, x2, x3⟩ := x
        obtain ⟨f0, f1, f2, f3⟩ := f
        simp only [Nat.zero_add] at z0 z1 z2 z3 y0 y1 y2 y3
        have hch : (ch : Int) ≤ 60 := by have := HC.out.2; omega
        obtain ⟨vd, vu, vl, vk⟩ := V
        simp only at x0 x1 x2 x3
        go_upto_region 14 with fail
        go_cut [57] (fun c wd => wd = wc ∧ ∃ q : Bool, c = .bool q ∧ (q = false ↔ (⟨vd, vu, vl, vk⟩ : Iv) = ⟨ad, au, al, ak⟩))
        case first =>
          go_wp2
          all_goals (go_meet; first | exact ⟨trivial, _, rfl, by simp [*]⟩ | exact ⟨rfl, _, rfl, by simp [*]⟩)
        case rest =>
          obtain ⟨rfl, q, rfl, hq⟩ := hcut
          have HQ := Lib.hid hq
          clear hq
          go_upto_if 57 with fail
          go_cut [8] (fun c wd => wd = wc ∧ ∃ ch' : Nat, c = .int .i64 ch' ∧ Hid (ch' + leftLow stops ⟨vd, vu, vl, vk⟩ + leftHigh stops ⟨vd, vu, vl, vk⟩ ≤ 2 * m + 2 ∧ ch' ≤ j + 1))
          case first =>
            cases q
            · go_wp2
              go_meet
              refine ⟨by first | trivial | rfl, ch, by first | trivial | rfl, ?_⟩
              have e := HQ.out.1 (by simp)
              rw [e]
              exact ⟨HC.out.1, by have := HC.out.2; omega⟩
            · go_wp2
              go_meet
              refine ⟨by first | trivial | rfl, ch + 1, by simp, ?_⟩
              have e : (⟨vd, vu, vl, vk⟩ : Iv) ≠ ⟨ad, au, al, ak⟩ := fun e => by have := HQ.out.2 e; cases this
              have hv := HV.out
              have hl := widen_less ⟨ad, au, al, ak⟩ J stops (by rw [← hv]; exact e)
              rw [← hv] at hl
              have hc := HC.out
              exact ⟨by omega, by omega⟩
          case rest =>
            obtain ⟨rfl, ch', rfl, HC'⟩ := hcut
            have HVV : Hid (ivValid ⟨vd, vu, vl, vk⟩ = 0) := by
              show _ = _
              rw [HV.out]
              refine widen_valid HVA.out HVJ.out fun s hs => ?_
              obtain ⟨q, hq, rfl⟩ := List.getElem_of_mem hs
              have := HF.out q (by omega)
              simpa [List.getD_eq_getElem?_getD, List.getElem?_eq_getElem hq] using this
            have HIN : Hid (ivWithin J ⟨vd, vu, vl, vk⟩ = true) := by
              show _ = _
              rw [HV.out]
              exact widen_within
            go_wp2_with fail
            refine (iWithin_ok J.down J.up J.low J.high vd vu vl vk _ HVJ.out HVV.out).mono ?_
            rw [HIN.out]
            rintro e w3 ⟨rfl, hb3⟩
            have H10 := Lib.hid (H9.out.1.next hb3)
            have z0' := cell_below hb3 z0
            have z1' := cell_below hb3 z1
            have z2' := cell_below hb3 z2
            have z3' := cell_below hb3 z3
            have x0' := cell_below hb3 x0
            have x1' := cell_below hb3 x1
            have x2' := cell_below hb3 x2
            have x3' := cell_below hb3 x3
            have F := H10.out.1.fa
            obtain ⟨f0', f1', f2', f3'⟩ := F
            clear hb3
            go_wp2
            go_roundg (gk - 1)
            case measure => omega
            case rel => exact ⟨j + 1, ch', ⟨vd, vu, vl, vk⟩, by omega, by omega, by go_num, rfl, HC', H10.out.1.put ⟨vd, vu, vl, vk⟩⟩
end Go.Proofs.Rcn
