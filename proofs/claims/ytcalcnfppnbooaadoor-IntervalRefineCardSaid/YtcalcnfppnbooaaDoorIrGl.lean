import Derived.Test.YtcalcnfppnbooaaDoorIrR4
import Derived.Test.YtcalcnfppnbooaaDoorIrIvM
import Derived.Test.YtcalcnfppnbooaaDoorIrZw
/- interval.less, with the contract that the printed texts ask of it. -/
set_option linter.unusedVariables false
set_option linter.unusedSimpArgs false
namespace Go.Proofs.Rcg
open Go Go.RowKit Go.Proofs.Rcn Go.Proofs.Rcp Go.Proofs.YtcalcnfppnbooaaDoor.R Go.Proofs.YtcalcnfppnbooaaDoorW.PrintWords

/-- What 'interval.meet' tells. -/
theorem meet_val (d u d' u' : Bool) (l h l' h' : Int) (k : Nat) : interval_meet.f (k + 3) d u l h d' u' l' h' = some ((ivMeet ⟨d, u, l, h⟩ ⟨d', u', l', h'⟩).1.down, (ivMeet ⟨d, u, l, h⟩ ⟨d', u', l', h'⟩).1.up, (ivMeet ⟨d, u, l, h⟩ ⟨d', u', l', h'⟩).1.low, (ivMeet ⟨d, u, l, h⟩ ⟨d', u', l', h'⟩).1.high, (ivMeet ⟨d, u, l, h⟩ ⟨d', u', l', h'⟩).2) := by
  unfold interval_meet.f ivMeet nothing met zeroI
  simp only [interval_meet.j0, interval_meet.j1, interval_meet.j2]
  cases d <;> cases u <;> cases d' <;> cases u' <;> simp <;> (repeat' split) <;> simp_all <;> omega
theorem imeet_any [EA] (d u d' u' : Bool) (l h l' h' : Int) (w : World) :
    Calls Tryd.prog 97 #[.agg #[.bool d, .bool u, .int .i64 l, .int .i64 h], .agg #[.bool d', .bool u', .int .i64 l', .int .i64 h']] w fun e w' => e = .returned (.tuple #[.agg #[.bool (ivMeet ⟨d, u, l, h⟩ ⟨d', u', l', h'⟩).1.down, .bool (ivMeet ⟨d, u, l, h⟩ ⟨d', u', l', h'⟩).1.up, .int .i64 (ivMeet ⟨d, u, l, h⟩ ⟨d', u', l', h'⟩).1.low, .int .i64 (ivMeet ⟨d, u, l, h⟩ ⟨d', u', l', h'⟩).1.high], .bool (ivMeet ⟨d, u, l, h⟩ ⟨d', u', l', h'⟩).2]) ∧ Below w.heap.size w w' :=
  interval_meet.calls 3 d u l h d' u' l' h' _ _ _ _ _ w (meet_val d u d' u' l h l' h' 0)
/-- An interval as a value; a variable that holds one. -/
abbrev ivV (a : Iv) : Value := .agg #[.bool a.down, .bool a.up, .int .i64 a.low, .int .i64 a.high]
abbrev ivO (a : Iv) : Obj := .cells #[.bool a.down, .bool a.up, .int .i64 a.low, .int .i64 a.high] 49
structure Cell4 (W : World) (b : Nat) (a : Iv) : Prop where
  lt : b < W.heap.size
  c0 : W.cell? ⟨b, 0, none⟩ = some (.bool a.down)
  c1 : W.cell? ⟨b, 1, none⟩ = some (.bool a.up)
  c2 : W.cell? ⟨b, 2, none⟩ = some (.int .i64 a.low)
  c3 : W.cell? ⟨b, 3, none⟩ = some (.int .i64 a.high)
  f0 : W.frozen? ⟨b, 0, none⟩ = false
  f1 : W.frozen? ⟨b, 1, none⟩ = false
  f2 : W.frozen? ⟨b, 2, none⟩ = false
  f3 : W.frozen? ⟨b, 3, none⟩ = false
theorem Cell4.below {W w1 : World} {b : Nat} {a : Iv} (h : Cell4 W b a) (hb : Below W.heap.size W w1) : Cell4 w1 b a :=
  have hf := fun i => ((bcell hb).2 b i h.lt)
  ⟨Nat.lt_of_lt_of_le h.lt hb.size, cell_below hb h.c0, cell_below hb h.c1, cell_below hb h.c2, cell_below hb h.c3, (hf 0).trans h.f0, (hf 1).trans h.f1, (hf 2).trans h.f2, (hf 3).trans h.f3⟩
/-- The variables of 'less': the two that came in, the two that go out. -/
structure LW (w : World) (a b x y : Iv) (wr : World) : Prop where
  below : Below w.heap.size w wr
  a : Cell4 wr w.heap.size a
  b : Cell4 wr (w.heap.size + 1) b
  x : Cell4 wr (w.heap.size + 1 + 1) x
  y : Cell4 wr (w.heap.size + 1 + 1 + 1) y
theorem LW.next {w wr w1 : World} {a b x y : Iv} (h : LW w a b x y wr) (hb : Below wr.heap.size wr w1) : LW w a b x y w1 :=
  ⟨Go.Proofs.Rcn.below_then h.below hb, h.a.below hb, h.b.below hb, h.x.below hb, h.y.below hb⟩
theorem LW.drew {w wr : World} {a b x y : Iv} (h : LW w a b x y wr) : LW w a b x y wr.drew := h.next (Go.Proofs.Rcn.below_drew (Below.refl _ _))
theorem LW.new (w : World) (a b x y : Iv) : LW w a b x y ((((w.alloc (ivO a)).alloc (ivO b)).alloc (ivO x)).alloc (ivO y)) := by
  refine ⟨Go.Proofs.Rcn.below_alloc (Go.Proofs.Rcn.below_alloc (Go.Proofs.Rcn.below_alloc (Go.Proofs.Rcn.below_alloc (Below.refl _ _) _) _) _) _, ?_, ?_, ?_, ?_⟩ <;>
    exact ⟨by simp <;> omega, by simp [go_sem], by simp [go_sem], by simp [go_sem], by simp [go_sem], by simp [go_sem], by simp [go_sem], by simp [go_sem], by simp [go_sem]⟩
theorem Cell4.set {W : World} {b : Nat} {a : Iv} (h : Cell4 W b a) {d : Nat} (hd : d ≠ b) (i : Nat) (u : Value) : Cell4 (W.setCell ⟨d, i, none⟩ u) b a :=
  have hc := fun j => cell_two W d b i j u (by omega)
  ⟨by simpa using h.lt, (hc _).trans h.c0, (hc _).trans h.c1, (hc _).trans h.c2, (hc _).trans h.c3, (frozen_set ..).trans h.f0, (frozen_set ..).trans h.f1, (frozen_set ..).trans h.f2, (frozen_set ..).trans h.f3⟩
abbrev put4 (W : World) (b : Nat) (x : Iv) : World := (((W.setCell ⟨b, 0, none⟩ (.bool x.down)).setCell ⟨b, 1, none⟩ (.bool x.up)).setCell ⟨b, 2, none⟩ (.int .i64 x.low)).setCell ⟨b, 3, none⟩ (.int .i64 x.high)
theorem Cell4.put {W : World} {b : Nat} {a : Iv} (h : Cell4 W b a) (x : Iv) : Cell4 (put4 W b x) b x := by
  refine ⟨by simpa using h.lt, ?_, ?_, ?_, ?_, ?_, ?_, ?_, ?_⟩
  · simp [go_sem, h.c0, h.lt]
  · simp [go_sem, h.c1, h.lt]
  · simp [go_sem, h.c2, h.lt]
  · simp [go_sem, h.c3, h.lt]
  all_goals (repeat (rw [frozen_set])); first | exact h.f0 | exact h.f1 | exact h.f2 | exact h.f3
theorem Cell4.other {W : World} {b : Nat} {a : Iv} (h : Cell4 W b a) {d : Nat} (hd : d ≠ b) (x : Iv) : Cell4 (put4 W d x) b a := (((h.set hd _ _).set hd _ _).set hd _ _).set hd _ _
theorem below_put4 {w W : World} (h : Below w.heap.size w W) {b : Nat} (hb : w.heap.size ≤ b) (x : Iv) : Below w.heap.size w (put4 W b x) :=
  Go.Proofs.Rcn.below_set (Go.Proofs.Rcn.below_set (Go.Proofs.Rcn.below_set (Go.Proofs.Rcn.below_set h hb _) hb _) hb _) hb _
theorem LW.putx {w wr : World} {a b x y : Iv} (h : LW w a b x y wr) (z : Iv) : LW w a b z y (put4 wr (w.heap.size + 1 + 1) z) :=
  ⟨below_put4 h.below (by omega) z, h.a.other (by omega) z, h.b.other (by omega) z, h.x.put z, h.y.other (by omega) z⟩
theorem LW.puty {w wr : World} {a b x y : Iv} (h : LW w a b x y wr) (z : Iv) : LW w a b x z (put4 wr (w.heap.size + 1 + 1 + 1) z) :=
  ⟨below_put4 h.below (by omega) z, h.a.other (by omega) z, h.b.other (by omega) z, h.x.other (by omega) z, h.y.put z⟩
def interval_less.f (a0_0 : Bool) (a0_1 : Bool) (a0_2 : Int) (a0_3 : Int) (a1_0 : Bool) (a1_1 : Bool) (a1_2 : Int) (a1_3 : Int) (a2 : Int) : Option (Bool × Bool × Int × Int × Bool × Bool × Int × Int × Bool) :=
  if (0 ≤ a2 ∧ a2 ≤ 1) ∧ (-1099511627776 ≤ a0_2 ∧ a0_2 ≤ 1099511627776) ∧ (-1099511627776 ≤ a1_3 ∧ a1_3 ≤ 1099511627776) then
    some ((ivLess ⟨a0_0, a0_1, a0_2, a0_3⟩ ⟨a1_0, a1_1, a1_2, a1_3⟩ a2).1.down, (ivLess ⟨a0_0, a0_1, a0_2, a0_3⟩ ⟨a1_0, a1_1, a1_2, a1_3⟩ a2).1.up, (ivLess ⟨a0_0, a0_1, a0_2, a0_3⟩ ⟨a1_0, a1_1, a1_2, a1_3⟩ a2).1.low, (ivLess ⟨a0_0, a0_1, a0_2, a0_3⟩ ⟨a1_0, a1_1, a1_2, a1_3⟩ a2).1.high,
      (ivLess ⟨a0_0, a0_1, a0_2, a0_3⟩ ⟨a1_0, a1_1, a1_2, a1_3⟩ a2).2.1.down, (ivLess ⟨a0_0, a0_1, a0_2, a0_3⟩ ⟨a1_0, a1_1, a1_2, a1_3⟩ a2).2.1.up, (ivLess ⟨a0_0, a0_1, a0_2, a0_3⟩ ⟨a1_0, a1_1, a1_2, a1_3⟩ a2).2.1.low, (ivLess ⟨a0_0, a0_1, a0_2, a0_3⟩ ⟨a1_0, a1_1, a1_2, a1_3⟩ a2).2.1.high, (ivLess ⟨a0_0, a0_1, a0_2, a0_3⟩ ⟨a1_0, a1_1, a1_2, a1_3⟩ a2).2.2)
  else none
set_option maxRecDepth 100000 in
set_option maxHeartbeats 4000000 in
theorem less_any [EA] (d u d' u' : Bool) (l h l' h' c : Int) (w : World) (hc : 0 ≤ c ∧ c ≤ 1) (hl : -1099511627776 ≤ l ∧ l ≤ 1099511627776) (hh : -1099511627776 ≤ h' ∧ h' ≤ 1099511627776) :
    Calls Tryd.prog 96 #[.agg #[.bool d, .bool u, .int .i64 l, .int .i64 h], .agg #[.bool d', .bool u', .int .i64 l', .int .i64 h'], .int .i64 c] w fun e w' =>
      e = .returned (.tuple #[ivV (ivLess ⟨d, u, l, h⟩ ⟨d', u', l', h'⟩ c).1, ivV (ivLess ⟨d, u, l, h⟩ ⟨d', u', l', h'⟩ c).2.1, .bool (ivLess ⟨d, u, l, h⟩ ⟨d', u', l', h'⟩ c).2.2]) ∧ Below w.heap.size w w' := by
  have hm := fun W e1 e2 e3 e4 => imeet_any d u e1 e2 l h e3 e4 W
  have hm' := fun W e1 e2 e3 e4 => imeet_any d' u' e1 e2 l' h' e3 e4 W
  have HM := Lib.hid hm
  have HM' := Lib.hid hm'
  have hw1 : wrap64 (h' - c) = h' - c := by unfold wrap64; omega
  have hw2 : wrap64 (l + c) = l + c := by unfold wrap64; omega
  have HW := Lib.hid (And.intro hw1 hw2)
  obtain ⟨R, hR⟩ : ∃ R, R = ivLess ⟨d, u, l, h⟩ ⟨d', u', l', h'⟩ c := ⟨_, rfl⟩
  rw [← hR]
  have HR := Lib.hid hR
  clear hm hm' hw1 hw2 hR hc hl hh
  go_enter Tryd.func96, Tryd.ntmps96
  go_upto_region 1 with fail
  go_cut [8] (fun v wc => v = .bool true ∧ Hid (LW w ⟨d, u, l, h⟩ ⟨d', u', l', h'⟩ ⟨d, u, l, h⟩ ⟨d', u', l', h'⟩ wc))
  case first =>
    clear HR HW HM HM'
    go_region
    all_goals (go_wp2_with fail; go_meet)
    all_goals exact ⟨rfl, (LW.new w _ _ _ _).drew⟩
  case rest =>
    obtain ⟨rfl, HS⟩ := hcut
    cases u' with
    | true =>
      cases d with
      | true =>
        have HRW : Hid (R = (⟨true, u, l, h⟩, ⟨d', true, l', h'⟩, true)) := by show _ = _; rw [HR.out]; rfl
        clear HR HM HM'
        obtain ⟨⟨al, a0, a1, a2, a3, af0, af1, af2, af3⟩, ⟨bl, b0, b1, b2, b3, bf0, bf1, bf2, bf3⟩, ⟨xl, x0, x1, x2, x3, xf0, xf1, xf2, xf3⟩, ⟨yl, y0, y1, y2, y3, yf0, yf1, yf2, yf3⟩⟩ := And.intro HS.out.a (And.intro HS.out.b (And.intro HS.out.x HS.out.y))
        simp only at a0 a1 a2 a3 b0 b1 b2 b3 x0 x1 x2 x3 y0 y1 y2 y3
        go_upto_region 6 with fail
        go_region
        all_goals (try go_wp2)
        have HF := Lib.hid (((HS.out.putx ⟨true, u, l, h⟩).puty ⟨d', true, l', h'⟩).drew)
        generalize hwf : World.drew _ = wf
        have HF2 : Hid (LW w ⟨true, u, l, h⟩ ⟨d', true, l', h'⟩ ⟨true, u, l, h⟩ ⟨d', true, l', h'⟩ wf) := by show LW _ _ _ _ _ _; rw [← hwf]; exact HF.out
        clear hwf HF
        clear al a0 a1 a2 a3 af0 af1 af2 af3 bl b0 b1 b2 b3 bf0 bf1 bf2 bf3 xl x0 x1 x2 x3 xf0 xf1 xf2 xf3 yl y0 y1 y2 y3 yf0 yf1 yf2 yf3
        obtain ⟨⟨al, a0, a1, a2, a3, af0, af1, af2, af3⟩, ⟨bl, b0, b1, b2, b3, bf0, bf1, bf2, bf3⟩, ⟨xl, x0, x1, x2, x3, xf0, xf1, xf2, xf3⟩, ⟨yl, y0, y1, y2, y3, yf0, yf1, yf2, yf3⟩⟩ := And.intro HF2.out.a (And.intro HF2.out.b (And.intro HF2.out.x HF2.out.y))
        try simp only at a0 a1 a2 a3 b0 b1 b2 b3 x0 x1 x2 x3 y0 y1 y2 y3
        refine bodyPost_ret (v := .tuple #[ivV ⟨true, u, l, h⟩, ivV ⟨d', true, l', h'⟩, .bool true]) (by simp [results, Tryd.results96, go_sem, x0, x1, x2, x3, y0, y1, y2, y3]) rfl ⟨by rw [HRW.out], HF2.out.below⟩
      | false =>
        have HR2 : Hid (R = (⟨false, u, l, h⟩, (ivMeet ⟨d', true, l', h'⟩ ⟨false, true, l + c, 0⟩).1, (ivMeet ⟨d', true, l', h'⟩ ⟨false, true, l + c, 0⟩).2)) := by show _ = _; rw [HR.out]; rfl
        clear HR
        have HM2 := Lib.hid (fun W => HM'.out W false true (l + c) 0)
        generalize ivMeet ⟨d', true, l', h'⟩ ⟨false, true, l + c, 0⟩ = m2 at HR2 HM2
        obtain ⟨⟨yd, yu, ylo, yhi⟩, ok2⟩ := m2
        simp only at HM2
        have HRW : Hid (R = (⟨false, u, l, h⟩, ⟨yd, yu, ylo, yhi⟩, ok2)) := HR2.out
        clear HR2 HM HM'
        obtain ⟨⟨al, a0, a1, a2, a3, af0, af1, af2, af3⟩, ⟨bl, b0, b1, b2, b3, bf0, bf1, bf2, bf3⟩, ⟨xl, x0, x1, x2, x3, xf0, xf1, xf2, xf3⟩, ⟨yl, y0, y1, y2, y3, yf0, yf1, yf2, yf3⟩⟩ := And.intro HS.out.a (And.intro HS.out.b (And.intro HS.out.x HS.out.y))
        simp only at a0 a1 a2 a3 b0 b1 b2 b3 x0 x1 x2 x3 y0 y1 y2 y3
        have hw2 := HW.out.2
        go_wp2_with fail
        refine (HM2.out _).mono ?_
        rintro e w2 ⟨rfl, hb2⟩
        have H2 := Lib.hid (HS.out.next hb2)
        clear hb2 hw2
        clear al a0 a1 a2 a3 af0 af1 af2 af3 bl b0 b1 b2 b3 bf0 bf1 bf2 bf3 xl x0 x1 x2 x3 xf0 xf1 xf2 xf3 yl y0 y1 y2 y3 yf0 yf1 yf2 yf3
        obtain ⟨⟨al, a0, a1, a2, a3, af0, af1, af2, af3⟩, ⟨bl, b0, b1, b2, b3, bf0, bf1, bf2, bf3⟩, ⟨xl, x0, x1, x2, x3, xf0, xf1, xf2, xf3⟩, ⟨yl, y0, y1, y2, y3, yf0, yf1, yf2, yf3⟩⟩ := And.intro H2.out.a (And.intro H2.out.b (And.intro H2.out.x H2.out.y))
        try simp only at a0 a1 a2 a3 b0 b1 b2 b3 x0 x1 x2 x3 y0 y1 y2 y3
        go_upto_region 6 with fail
        go_region
        all_goals (try go_wp2)
        have HF := Lib.hid ((((H2.out.puty ⟨yd, yu, ylo, yhi⟩).putx ⟨false, u, l, h⟩).puty ⟨yd, yu, ylo, yhi⟩).drew)
        generalize hwf : World.drew _ = wf
        have HF2 : Hid (LW w ⟨false, u, l, h⟩ ⟨d', true, l', h'⟩ ⟨false, u, l, h⟩ ⟨yd, yu, ylo, yhi⟩ wf) := by show LW _ _ _ _ _ _; rw [← hwf]; exact HF.out
        clear hwf HF
        clear al a0 a1 a2 a3 af0 af1 af2 af3 bl b0 b1 b2 b3 bf0 bf1 bf2 bf3 xl x0 x1 x2 x3 xf0 xf1 xf2 xf3 yl y0 y1 y2 y3 yf0 yf1 yf2 yf3
        obtain ⟨⟨al, a0, a1, a2, a3, af0, af1, af2, af3⟩, ⟨bl, b0, b1, b2, b3, bf0, bf1, bf2, bf3⟩, ⟨xl, x0, x1, x2, x3, xf0, xf1, xf2, xf3⟩, ⟨yl, y0, y1, y2, y3, yf0, yf1, yf2, yf3⟩⟩ := And.intro HF2.out.a (And.intro HF2.out.b (And.intro HF2.out.x HF2.out.y))
        try simp only at a0 a1 a2 a3 b0 b1 b2 b3 x0 x1 x2 x3 y0 y1 y2 y3
        refine bodyPost_ret (v := .tuple #[ivV ⟨false, u, l, h⟩, ivV ⟨yd, yu, ylo, yhi⟩, .bool ok2]) (by simp [results, Tryd.results96, go_sem, x0, x1, x2, x3, y0, y1, y2, y3]) rfl ⟨by rw [HRW.out], HF2.out.below⟩
    | false =>
      have HM1 := Lib.hid (fun W => HM.out W true false 0 (h' - c))
      have HR1 : Hid (R = if (ivMeet ⟨d, u, l, h⟩ ⟨true, false, 0, h' - c⟩).2 = true ∧ d = false then ((ivMeet ⟨d, u, l, h⟩ ⟨true, false, 0, h' - c⟩).1, (ivMeet ⟨d', false, l', h'⟩ ⟨false, true, l + c, 0⟩).1, (ivMeet ⟨d', false, l', h'⟩ ⟨false, true, l + c, 0⟩).2)
          else ((ivMeet ⟨d, u, l, h⟩ ⟨true, false, 0, h' - c⟩).1, ⟨d', false, l', h'⟩, (ivMeet ⟨d, u, l, h⟩ ⟨true, false, 0, h' - c⟩).2)) := by show _ = _; rw [HR.out]; rfl
      clear HR
      generalize ivMeet ⟨d, u, l, h⟩ ⟨true, false, 0, h' - c⟩ = m1 at HR1 HM1
      obtain ⟨⟨xd, xu, xlo, xhi⟩, ok1⟩ := m1
      simp only at HM1
      have HM2 := Lib.hid (fun W => HM'.out W false true (l + c) 0)
      clear HM HM'
      cases ok1 with
      | false =>
        have HRW : Hid (R = (⟨xd, xu, xlo, xhi⟩, ⟨d', false, l', h'⟩, false)) := by show _ = _; rw [HR1.out]; rfl
        clear HR1 HM2
        obtain ⟨⟨al, a0, a1, a2, a3, af0, af1, af2, af3⟩, ⟨bl, b0, b1, b2, b3, bf0, bf1, bf2, bf3⟩, ⟨xl, x0, x1, x2, x3, xf0, xf1, xf2, xf3⟩, ⟨yl, y0, y1, y2, y3, yf0, yf1, yf2, yf3⟩⟩ := And.intro HS.out.a (And.intro HS.out.b (And.intro HS.out.x HS.out.y))
        simp only at a0 a1 a2 a3 b0 b1 b2 b3 x0 x1 x2 x3 y0 y1 y2 y3
        have hw1 := HW.out.1
        go_wp2_with fail
        refine (HM1.out _).mono ?_
        rintro e w2 ⟨rfl, hb2⟩
        have H2 := Lib.hid (HS.out.next hb2)
        clear hb2 hw1
        clear al a0 a1 a2 a3 af0 af1 af2 af3 bl b0 b1 b2 b3 bf0 bf1 bf2 bf3 xl x0 x1 x2 x3 xf0 xf1 xf2 xf3 yl y0 y1 y2 y3 yf0 yf1 yf2 yf3
        obtain ⟨⟨al, a0, a1, a2, a3, af0, af1, af2, af3⟩, ⟨bl, b0, b1, b2, b3, bf0, bf1, bf2, bf3⟩, ⟨xl, x0, x1, x2, x3, xf0, xf1, xf2, xf3⟩, ⟨yl, y0, y1, y2, y3, yf0, yf1, yf2, yf3⟩⟩ := And.intro H2.out.a (And.intro H2.out.b (And.intro H2.out.x H2.out.y))
        try simp only at a0 a1 a2 a3 b0 b1 b2 b3 x0 x1 x2 x3 y0 y1 y2 y3
        go_upto_region 6 with fail
        go_region
        all_goals (try go_wp2)
        have HF := Lib.hid ((((H2.out.putx ⟨xd, xu, xlo, xhi⟩).putx ⟨xd, xu, xlo, xhi⟩).puty ⟨d', false, l', h'⟩).drew)
        generalize hwf : World.drew _ = wf
        have HF2 : Hid (LW w ⟨d, u, l, h⟩ ⟨d', false, l', h'⟩ ⟨xd, xu, xlo, xhi⟩ ⟨d', false, l', h'⟩ wf) := by show LW _ _ _ _ _ _; rw [← hwf]; exact HF.out
        clear hwf HF
        clear al a0 a1 a2 a3 af0 af1 af2 af3 bl b0 b1 b2 b3 bf0 bf1 bf2 bf3 xl x0 x1 x2 x3 xf0 xf1 xf2 xf3 yl y0 y1 y2 y3 yf0 yf1 yf2 yf3
        obtain ⟨⟨al, a0, a1, a2, a3, af0, af1, af2, af3⟩, ⟨bl, b0, b1, b2, b3, bf0, bf1, bf2, bf3⟩, ⟨xl, x0, x1, x2, x3, xf0, xf1, xf2, xf3⟩, ⟨yl, y0, y1, y2, y3, yf0, yf1, yf2, yf3⟩⟩ := And.intro HF2.out.a (And.intro HF2.out.b (And.intro HF2.out.x HF2.out.y))
        try simp only at a0 a1 a2 a3 b0 b1 b2 b3 x0 x1 x2 x3 y0 y1 y2 y3
        refine bodyPost_ret (v := .tuple #[ivV ⟨xd, xu, xlo, xhi⟩, ivV ⟨d', false, l', h'⟩, .bool false]) (by simp [results, Tryd.results96, go_sem, x0, x1, x2, x3, y0, y1, y2, y3]) rfl ⟨by rw [HRW.out], HF2.out.below⟩
      | true =>
        cases d with
        | true =>
          have HRW : Hid (R = (⟨xd, xu, xlo, xhi⟩, ⟨d', false, l', h'⟩, true)) := by show _ = _; rw [HR1.out]; rfl
          clear HR1 HM2
          obtain ⟨⟨al, a0, a1, a2, a3, af0, af1, af2, af3⟩, ⟨bl, b0, b1, b2, b3, bf0, bf1, bf2, bf3⟩, ⟨xl, x0, x1, x2, x3, xf0, xf1, xf2, xf3⟩, ⟨yl, y0, y1, y2, y3, yf0, yf1, yf2, yf3⟩⟩ := And.intro HS.out.a (And.intro HS.out.b (And.intro HS.out.x HS.out.y))
          simp only at a0 a1 a2 a3 b0 b1 b2 b3 x0 x1 x2 x3 y0 y1 y2 y3
          have hw1 := HW.out.1
          go_wp2_with fail
          refine (HM1.out _).mono ?_
          rintro e w2 ⟨rfl, hb2⟩
          have H2 := Lib.hid (HS.out.next hb2)
          clear hb2 hw1
          clear al a0 a1 a2 a3 af0 af1 af2 af3 bl b0 b1 b2 b3 bf0 bf1 bf2 bf3 xl x0 x1 x2 x3 xf0 xf1 xf2 xf3 yl y0 y1 y2 y3 yf0 yf1 yf2 yf3
          obtain ⟨⟨al, a0, a1, a2, a3, af0, af1, af2, af3⟩, ⟨bl, b0, b1, b2, b3, bf0, bf1, bf2, bf3⟩, ⟨xl, x0, x1, x2, x3, xf0, xf1, xf2, xf3⟩, ⟨yl, y0, y1, y2, y3, yf0, yf1, yf2, yf3⟩⟩ := And.intro H2.out.a (And.intro H2.out.b (And.intro H2.out.x H2.out.y))
          try simp only at a0 a1 a2 a3 b0 b1 b2 b3 x0 x1 x2 x3 y0 y1 y2 y3
          go_upto_region 6 with fail
          go_region
          all_goals (try go_wp2)
          have HF := Lib.hid ((((H2.out.putx ⟨xd, xu, xlo, xhi⟩).putx ⟨xd, xu, xlo, xhi⟩).puty ⟨d', false, l', h'⟩).drew)
          generalize hwf : World.drew _ = wf
          have HF2 : Hid (LW w ⟨true, u, l, h⟩ ⟨d', false, l', h'⟩ ⟨xd, xu, xlo, xhi⟩ ⟨d', false, l', h'⟩ wf) := by show LW _ _ _ _ _ _; rw [← hwf]; exact HF.out
          clear hwf HF
          clear al a0 a1 a2 a3 af0 af1 af2 af3 bl b0 b1 b2 b3 bf0 bf1 bf2 bf3 xl x0 x1 x2 x3 xf0 xf1 xf2 xf3 yl y0 y1 y2 y3 yf0 yf1 yf2 yf3
          obtain ⟨⟨al, a0, a1, a2, a3, af0, af1, af2, af3⟩, ⟨bl, b0, b1, b2, b3, bf0, bf1, bf2, bf3⟩, ⟨xl, x0, x1, x2, x3, xf0, xf1, xf2, xf3⟩, ⟨yl, y0, y1, y2, y3, yf0, yf1, yf2, yf3⟩⟩ := And.intro HF2.out.a (And.intro HF2.out.b (And.intro HF2.out.x HF2.out.y))
          try simp only at a0 a1 a2 a3 b0 b1 b2 b3 x0 x1 x2 x3 y0 y1 y2 y3
          refine bodyPost_ret (v := .tuple #[ivV ⟨xd, xu, xlo, xhi⟩, ivV ⟨d', false, l', h'⟩, .bool true]) (by simp [results, Tryd.results96, go_sem, x0, x1, x2, x3, y0, y1, y2, y3]) rfl ⟨by rw [HRW.out], HF2.out.below⟩
        | false =>
          have HR2 : Hid (R = (⟨xd, xu, xlo, xhi⟩, (ivMeet ⟨d', false, l', h'⟩ ⟨false, true, l + c, 0⟩).1, (ivMeet ⟨d', false, l', h'⟩ ⟨false, true, l + c, 0⟩).2)) := by show _ = _; rw [HR1.out]; rfl
          clear HR1
          generalize ivMeet ⟨d', false, l', h'⟩ ⟨false, true, l + c, 0⟩ = m2 at HR2 HM2
          obtain ⟨⟨yd, yu, ylo, yhi⟩, ok2⟩ := m2
          simp only at HM2
          have HRW : Hid (R = (⟨xd, xu, xlo, xhi⟩, ⟨yd, yu, ylo, yhi⟩, ok2)) := HR2.out
          clear HR2
          obtain ⟨⟨al, a0, a1, a2, a3, af0, af1, af2, af3⟩, ⟨bl, b0, b1, b2, b3, bf0, bf1, bf2, bf3⟩, ⟨xl, x0, x1, x2, x3, xf0, xf1, xf2, xf3⟩, ⟨yl, y0, y1, y2, y3, yf0, yf1, yf2, yf3⟩⟩ := And.intro HS.out.a (And.intro HS.out.b (And.intro HS.out.x HS.out.y))
          simp only at a0 a1 a2 a3 b0 b1 b2 b3 x0 x1 x2 x3 y0 y1 y2 y3
          have hw1 := HW.out.1
          go_wp2_with fail
          refine (HM1.out _).mono ?_
          rintro e w2 ⟨rfl, hb2⟩
          have H2 := Lib.hid (HS.out.next hb2)
          clear hb2 hw1
          clear al a0 a1 a2 a3 af0 af1 af2 af3 bl b0 b1 b2 b3 bf0 bf1 bf2 bf3 xl x0 x1 x2 x3 xf0 xf1 xf2 xf3 yl y0 y1 y2 y3 yf0 yf1 yf2 yf3
          obtain ⟨⟨al, a0, a1, a2, a3, af0, af1, af2, af3⟩, ⟨bl, b0, b1, b2, b3, bf0, bf1, bf2, bf3⟩, ⟨xl, x0, x1, x2, x3, xf0, xf1, xf2, xf3⟩, ⟨yl, y0, y1, y2, y3, yf0, yf1, yf2, yf3⟩⟩ := And.intro H2.out.a (And.intro H2.out.b (And.intro H2.out.x H2.out.y))
          try simp only at a0 a1 a2 a3 b0 b1 b2 b3 x0 x1 x2 x3 y0 y1 y2 y3
          have hw2 := HW.out.2
          have H3 := Lib.hid (H2.out.putx ⟨xd, xu, xlo, xhi⟩)
          go_wp2_with fail
          refine (HM2.out _).mono ?_
          rintro e w3 ⟨rfl, hb3⟩
          have H4 := Lib.hid (H3.out.next hb3)
          clear hb3 hw2
          clear al a0 a1 a2 a3 af0 af1 af2 af3 bl b0 b1 b2 b3 bf0 bf1 bf2 bf3 xl x0 x1 x2 x3 xf0 xf1 xf2 xf3 yl y0 y1 y2 y3 yf0 yf1 yf2 yf3
          obtain ⟨⟨al, a0, a1, a2, a3, af0, af1, af2, af3⟩, ⟨bl, b0, b1, b2, b3, bf0, bf1, bf2, bf3⟩, ⟨xl, x0, x1, x2, x3, xf0, xf1, xf2, xf3⟩, ⟨yl, y0, y1, y2, y3, yf0, yf1, yf2, yf3⟩⟩ := And.intro H4.out.a (And.intro H4.out.b (And.intro H4.out.x H4.out.y))
          try simp only at a0 a1 a2 a3 b0 b1 b2 b3 x0 x1 x2 x3 y0 y1 y2 y3
          go_upto_region 6 with fail
          go_region
          all_goals (try go_wp2)
          have HF := Lib.hid ((((H4.out.puty ⟨yd, yu, ylo, yhi⟩).putx ⟨xd, xu, xlo, xhi⟩).puty ⟨yd, yu, ylo, yhi⟩).drew)
          generalize hwf : World.drew _ = wf
          have HF2 : Hid (LW w ⟨false, u, l, h⟩ ⟨d', false, l', h'⟩ ⟨xd, xu, xlo, xhi⟩ ⟨yd, yu, ylo, yhi⟩ wf) := by show LW _ _ _ _ _ _; rw [← hwf]; exact HF.out
          clear hwf HF
          clear al a0 a1 a2 a3 af0 af1 af2 af3 bl b0 b1 b2 b3 bf0 bf1 bf2 bf3 xl x0 x1 x2 x3 xf0 xf1 xf2 xf3 yl y0 y1 y2 y3 yf0 yf1 yf2 yf3
          obtain ⟨⟨al, a0, a1, a2, a3, af0, af1, af2, af3⟩, ⟨bl, b0, b1, b2, b3, bf0, bf1, bf2, bf3⟩, ⟨xl, x0, x1, x2, x3, xf0, xf1, xf2, xf3⟩, ⟨yl, y0, y1, y2, y3, yf0, yf1, yf2, yf3⟩⟩ := And.intro HF2.out.a (And.intro HF2.out.b (And.intro HF2.out.x HF2.out.y))
          try simp only at a0 a1 a2 a3 b0 b1 b2 b3 x0 x1 x2 x3 y0 y1 y2 y3
          refine bodyPost_ret (v := .tuple #[ivV ⟨xd, xu, xlo, xhi⟩, ivV ⟨yd, yu, ylo, yhi⟩, .bool ok2]) (by simp [results, Tryd.results96, go_sem, x0, x1, x2, x3, y0, y1, y2, y3]) rfl ⟨by rw [HRW.out], HF2.out.below⟩
theorem interval_less.calls [EA] (a0_0 : Bool) (a0_1 : Bool) (a0_2 : Int) (a0_3 : Int) (a1_0 : Bool) (a1_1 : Bool) (a1_2 : Int) (a1_3 : Int) (a2 : Int) (r1 : Bool) (r2 : Bool) (r3 : Int) (r4 : Int) (r5 : Bool) (r6 : Bool) (r7 : Int) (r8 : Int) (r9 : Bool) (w : World) (h : interval_less.f a0_0 a0_1 a0_2 a0_3 a1_0 a1_1 a1_2 a1_3 a2 = some (r1, r2, r3, r4, r5, r6, r7, r8, r9)) :
    Calls Tryd.prog 96 #[.agg #[.bool a0_0, .bool a0_1, .int .i64 a0_2, .int .i64 a0_3], .agg #[.bool a1_0, .bool a1_1, .int .i64 a1_2, .int .i64 a1_3], .int .i64 a2] w fun e w' => e = .returned (.tuple #[.agg #[.bool r1, .bool r2, .int .i64 r3, .int .i64 r4], .agg #[.bool r5, .bool r6, .int .i64 r7, .int .i64 r8], .bool r9]) ∧ Below w.heap.size w w' := by
  unfold interval_less.f at h
  split at h
  · rename_i hc
    simp only [Option.some.injEq, Prod.mk.injEq] at h
    obtain ⟨rfl, rfl, rfl, rfl, rfl, rfl, rfl, rfl, rfl⟩ := h
    exact less_any a0_0 a0_1 a1_0 a1_1 a0_2 a0_3 a1_2 a1_3 a2 w hc.1 hc.2.1 hc.2.2
  · cases h
end Go.Proofs.Rcg
