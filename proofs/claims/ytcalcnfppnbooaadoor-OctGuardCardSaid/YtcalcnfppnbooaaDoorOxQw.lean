import Derived.Test.YtcalcnfppnbooaaDoorOxZv
import Derived.Test.YtcalcnfppnbooaaDoorOxQf
import Derived.Test.YtcalcnfppnbooaaDoorOxSp
import Derived.Test.YtcalcnfppnbooaaDoorOxW
/- Package octagon: at, least, clone, walked. -/
set_option linter.unusedVariables false
set_option linter.unusedSimpArgs false
namespace Go.Proofs.Rco
open Go Go.RowKit Go.Proofs.Rcn Go.Proofs.Rcg
open Go.Proofs.YtcalcnfppnbooaaDoorW.PrintLast (start_ pure_ take_ one_ last_ norm_ done_ goes_ value_ skip_ i64_w i32_w)
abbrev oC : TypeId := 146
theorem xor_op (i : Nat) (hi : i < 8) : bits BinOp.xor IntKind.i64 (i : Int) 1 = (op i : Nat) := by
  have : i = 0 ∨ i = 1 ∨ i = 2 ∨ i = 3 ∨ i = 4 ∨ i = 5 ∨ i = 6 ∨ i = 7 := by omega
  rcases this with rfl | rfl | rfl | rfl | rfl | rfl | rfl | rfl <;> decide
theorem op_eight {i m : Nat} (h : i < 2 * m) (hm : m ≤ 4) : i < 8 ∧ op i < 2 * m := ⟨by omega, op_lt h⟩
set_option maxHeartbeats 400000 in
theorem at_gen (m i j g o len cap : Nat) (N : Int) (w : World) (hN : N = m) (hm : m ≤ 16) (_hi : i ≤ 32) (hj : j ≤ 32) (hk : i * 2 * m + j < len) (hl : len ≤ 1000) :
    Calls Tryd.prog 107 #[.agg #[.int .i64 N, .slice (some ⟨g, o, none⟩) len cap], .int .i64 i, .int .i64 j] w fun e w' => e = .returned (.pointer (some ⟨g, o + (i * 2 * m + j) * 2, none⟩)) ∧ ∃ o, w' = w.alloc o := by
  subst hN
  have hb : i * 2 * m ≤ 64 * 16 := Nat.mul_le_mul (by omega) hm
  obtain ⟨q, hq⟩ : ∃ q : Nat, (i : Int) * 2 * (m : Int) = q := ⟨i * 2 * m, by push_cast; rfl⟩
  have hq2 : i * 2 * m = q := by exact_mod_cast hq
  rw [hq2] at hk hb ⊢
  clear hq2
  go_enter Tryd.func107, Tryd.ntmps107
  go_wp2
  go_ret
  exact ⟨rfl, _, rfl⟩
theorem at_easy {N : Int} {g len c : Nat} {W : World} (m i j : Nat) (hN : N = m) (hm : m ≤ 4) (hl : len = 2 * m * (2 * m)) (hi : i < 2 * m) (hj : j < 2 * m) :
    Calls Tryd.prog 107 #[.agg #[.int .i64 N, .slice (some ⟨g, 0, none⟩) len c], .int .i64 i, .int .i64 j] W fun e w' => e = .returned (.pointer (some ⟨g, (i * (2 * m) + j) * 2, none⟩)) ∧ ∃ o, w' = W.alloc o := by
  have h1 := idx_lt hi hj
  have h2 : 2 * m * (2 * m) ≤ 8 * 8 := Nat.mul_le_mul (by omega) (by omega)
  have := at_gen m i j g 0 len c N W hN (by omega) (by omega) (by omega) (by rw [Nat.mul_assoc, hl]; exact h1) (by omega)
  rw [Nat.mul_assoc, Nat.zero_add] at this
  exact this

/-- While a bound is lowered in two places. -/
structure LS (w : World) (base g len c : Nat) (bs p1 p2 : Nat) (X : List Cel) (wr : World) : Prop where
  but : But g w wr
  row : ZRow wr base oC (.slice (some ⟨g, 0, none⟩) len c) X
  ln : len = X.length
  c0 : wr.cell? ⟨bs, 0, none⟩ = some (.pointer (some ⟨g, p1, none⟩))
  c1 : wr.cell? ⟨bs, 1, none⟩ = some (.pointer (some ⟨g, p2, none⟩))
section
variable {w wr : World} {base g len c bs p1 p2 : Nat} {X : List Cel}
theorem LS.drew (h : LS w base g len c bs p1 p2 X wr) : LS w base g len c bs p1 p2 X wr.drew := ⟨h.but.drew, h.row, h.ln, h.c0, h.c1⟩
theorem LS.put (h : LS w base g len c bs p1 p2 X wr) (hb : bs ≠ g) (k : Nat) (a : Bool) (m : Int) :
    LS w base g len c bs p1 p2 (X.set k ⟨a, m⟩) ((wr.setCell ⟨g, k * 2, none⟩ (.bool a)).setCell ⟨g, k * 2 + 1, none⟩ (.int .i64 m)) :=
  ⟨(h.but.set _ _).set _ _, h.row.put h.ln k a m, by rw [List.length_set]; exact h.ln, (cell_two _ _ _ _ _ _ (by omega)).trans ((cell_two _ _ _ _ _ _ (by omega)).trans h.c0), (cell_two _ _ _ _ _ _ (by omega)).trans ((cell_two _ _ _ _ _ _ (by omega)).trans h.c1)⟩
end
/-- Behind so many rounds. -/
def lsq (L : List Cel) (k1 k2 : Nat) (h : Bool) (x : Int) (q : Nat) : List Cel := if q = 0 then L else if q = 1 then leastL L k1 h x else leastL (leastL L k1 h x) k2 h x
set_option maxRecDepth 100000 in
set_option maxHeartbeats 4000000 in
theorem least_any (m i j g len c base : Nat) (N : Int) (L : List Cel) (h : Bool) (x : Int) (w : World) (hN : N = m) (hm : m ≤ 4) (hl : len = 2 * m * (2 * m)) (hi : i < 2 * m) (hj : j < 2 * m)
    (hz : ZRow w base oC (.slice (some ⟨g, 0, none⟩) len c) L) (hg : g < w.heap.size) (hn : len = L.length) :
    Calls Tryd.prog 123 #[.agg #[.int .i64 N, .slice (some ⟨g, 0, none⟩) len c], .int .i64 i, .int .i64 j, .bool h, .int .i64 x] w fun e w' => e = .returned (.tuple #[]) ∧ ZRow w' base oC (.slice (some ⟨g, 0, none⟩) len c) (leastO (2 * m) L i j h x) ∧ But g w w' := by
  have k1 := xor_op i (op_eight hi hm).1
  have k2 := xor_op j (op_eight hj hm).1
  have hi' : op i < 2 * m := op_lt hi
  have hj' : op j < 2 * m := op_lt hj
  have HN := Lib.hid hN
  have Hl := Lib.hid hl
  have Hn := Lib.hid hn
  have hx1 : i * (2 * m) + j < len := by rw [hl]; exact idx_lt hi hj
  have hx2 : op j * (2 * m) + op i < len := by rw [hl]; exact idx_lt hj' hi'
  obtain ⟨wd, hwd⟩ : ∃ wd, wd = w.alloc (.cells #[.int .i64 N, .slice (some ⟨g, 0, none⟩) len c] 74) := ⟨_, rfl⟩
  have HD : Hid (Cell2 wd w.heap.size (.int .i64 N) (.slice (some ⟨g, 0, none⟩) len c) ∧ But g w wd ∧ ZRow wd base oC (.slice (some ⟨g, 0, none⟩) len c) L) := by
    show _ ∧ _
    rw [hwd]
    exact ⟨Cell2.new w _ _ _, (But.refl g w).alloc _, hz.alloc _⟩
  have HR : Hid (leastO (2 * m) L i j h x = lsq L (i * (2 * m) + j) (op j * (2 * m) + op i) h x 2) := rfl
  clear hN hl hn hz
  generalize leastO (2 * m) L i j h x = R at HR ⊢
  go_enter Tryd.func123, Tryd.ntmps123
  go_wp2
  rw [← hwd]
  clear hwd
  refine start_ (n := 13) (S := fun w' => w'.cell? ⟨w.heap.size, 0, none⟩ = some (.int .i64 N) ∧ w'.cell? ⟨w.heap.size, 1, none⟩ = some (.slice (some ⟨g, 0, none⟩) len c)) (ds := [10]) #[false, false, false, false, false, false, false, false, false, false, false, false, false] (by kernel_rfl) rfl rfl ⟨HD.out.1.c0, HD.out.1.c1⟩ (fun hHeld => ?_)
  refine pure_ (i := 1) (N := some 13) (v := ?_) (a' := ?_) #[false, true, false, false, false, false, false, false, false, false, false, false, false] rfl rfl (by kernel_rfl) (fun _ _ _ h => h) (Or.inl ⟨by rfl, ?_⟩) ?_ ?_; rotate_left; (· intro w'; go_simp; (with_reducible rfl)); rotate_left; (· simp only [sp]; rfl)
  refine pure_ (i := 2) (N := some 14) (v := ?_) (a' := ?_) #[false, true, true, false, false, false, false, false, false, false, false, false, false] rfl rfl (by kernel_rfl) (fun _ _ _ h => h) (Or.inl ⟨by rfl, ?_⟩) ?_ ?_; rotate_left; (· intro w'; go_simp; (with_reducible rfl)); rotate_left; (· simp only [sp]; rfl)
  refine pure_ (i := 5) (N := some 17) (v := ?_) (a' := ?_) #[false, true, true, false, false, true, false, false, false, false, false, false, false] rfl rfl (by kernel_rfl) (fun _ _ _ h => h) (Or.inl ⟨by rfl, ?_⟩) ?_ ?_; rotate_left; (· intro w'; go_simp; (with_reducible rfl)); rotate_left; (· simp only [sp]; rfl)
  refine pure_ (i := 6) (N := some 18) (v := ?_) (a' := ?_) #[false, true, true, false, false, true, true, false, false, false, false, false, false] rfl rfl (by kernel_rfl) (fun _ _ _ h => h) (Or.inl ⟨by rfl, ?_⟩) ?_ ?_; rotate_left; (· intro w'; go_simp; (with_reducible rfl)); rotate_left; (· simp only [sp]; rfl)
  refine pure_ (i := 7) (N := some 19) (v := ?_) (a' := ?_) #[false, true, true, false, false, true, true, true, false, false, false, false, false] rfl rfl (by kernel_rfl) (fun _ _ _ h => h) (Or.inl ⟨by rfl, ?_⟩) ?_ ?_; rotate_left; (· intro w'; go_simp; (with_reducible rfl)); rotate_left; (· simp only [sp]; rfl)
  refine pure_ (i := 8) (N := some 20) (v := ?_) (a' := ?_) #[false, true, true, false, false, true, true, true, true, false, false, false, false] rfl rfl (by kernel_rfl) (fun _ _ _ h => h) (Or.inl ⟨by rfl, ?_⟩) ?_ ?_; rotate_left; (· intro w'; go_simp; (with_reducible rfl)); rotate_left; (· simp only [sp]; rfl)
  refine pure_ (i := 12) (N := some 24) (v := ?_) (a' := ?_) #[false, true, true, false, false, true, true, true, true, false, false, false, true] rfl rfl (by kernel_rfl) (fun _ _ _ h => h) (Or.inl ⟨by rfl, ?_⟩) ?_ ?_; rotate_left; (· intro w'; go_simp; (with_reducible rfl)); rotate_left; (· simp only [sp]; rfl)
  refine take_ (i := 0) (N := some 12) (v := ?_) (a' := ?_) #[true, true, true, false, false, true, true, true, true, false, false, false, true] rfl rfl (by kernel_rfl) (fun _ _ _ h => h) (Or.inl ⟨by rfl, ?_⟩) hHeld ?_ ?_; rotate_left; (· rintro w' ⟨s0, s1⟩; go_simp; (with_reducible rfl)); rotate_left; (· simp only [sp]; rfl)
  refine take_ (i := 4) (N := some 16) (v := ?_) (a' := ?_) #[true, true, true, false, true, true, true, true, true, false, false, false, true] rfl rfl (by kernel_rfl) (fun _ _ _ h => h) (Or.inl ⟨by rfl, ?_⟩) hHeld ?_ ?_; rotate_left; (· rintro w' ⟨s0, s1⟩; go_simp; (with_reducible rfl)); rotate_left; (· simp only [sp]; rfl)
  refine one_ (i := 3) (N := some 15) #[true, true, true, true, true, true, true, true, true, false, false, false, true] rfl rfl (by kernel_rfl) (by decide) (fun K hK => ?_)
  refine goes_ Tryd.func107 (by kernel_rfl) rfl #[.agg #[.int .i64 N, .slice (some ⟨g, 0, none⟩) len c], .int .i64 i, .int .i64 j] (by rfl) rfl rfl (by simp only [List.map_toArray, List.map_cons, List.map_nil]; rfl) ?_
  with_reducible refine (at_easy m _ _ HN.out (by omega) Hl.out hi hj).mono ?_
  rintro e wz ⟨rfl, o1, rfl⟩
  refine ⟨_, rfl, ?_⟩
  have HA := HD.out.1.drew.alloc o1
  refine hK.out _ _ ⟨HA.c0, HA.c1⟩ (fun hHeld => ?_)
  clear hK K
  refine norm_ (a' := ?_) ?_ ?_
  rotate_left
  · show Act.put _ (some 15) _ = _
    simp only [sp]
    rfl
  refine one_ (i := 9) (N := some 21) #[true, true, true, true, true, true, true, true, true, true, false, false, true] rfl rfl (by kernel_rfl) (by decide) (fun K hK => ?_)
  refine goes_ Tryd.func107 (by kernel_rfl) rfl #[.agg #[.int .i64 N, .slice (some ⟨g, 0, none⟩) len c], .int .i64 (op j : Nat), .int .i64 (op i : Nat)] (by rfl) rfl rfl (by simp only [List.map_toArray, List.map_cons, List.map_nil]; rfl) ?_
  with_reducible refine (at_easy m _ _ HN.out (by omega) Hl.out hj' hi').mono ?_
  rintro e wz ⟨rfl, o2, rfl⟩
  refine ⟨_, rfl, ?_⟩
  have HB := HA.alloc o2
  refine hK.out _ _ ⟨HB.c0, HB.c1⟩ (fun hHeld => ?_)
  clear hK K
  refine norm_ (a' := ?_) ?_ ?_
  rotate_left
  · show Act.put _ (some 21) _ = _
    simp only [sp]
    rfl
  refine last_ (i := 10) (N := some 22) #[true, true, true, true, true, true, true, true, true, true, true, false, true] rfl rfl (by kernel_rfl) (by decide) (fun K hK => ?_)
  refine value_ (w1 := ?_) (v := ?_) (by rfl) rfl ?_ ?_
  rotate_left 2
  · go_simp
    constructor
    · rfl
    · rfl
  refine hK.out _ _ ?_
  clear hK K
  refine norm_ (a' := ?_) ?_ ?_
  rotate_left
  · show Act.put _ (some 22) _ = _
    simp only [sp]
    rfl
  refine pure_ (i := 11) (N := some 23) (v := ?_) (a' := ?_) #[true, true, true, true, true, true, true, true, true, true, true, true, true] rfl rfl (by kernel_rfl) (fun _ _ _ h => h) (Or.inl ⟨by rfl, ?_⟩) ?_ ?_; rotate_left; (· intro w'; go_simp; (with_reducible rfl)); rotate_left; (· simp only [sp]; rfl)
  refine done_ (by kernel_rfl) ?_
  clear k1 k2 hHeld
  have hbs : wd.heap.size + 1 + 1 ≠ g := by have := HD.out.2.1.size; omega
  have HS0 : Hid (∀ p1 p2, LS w base g len c (wd.heap.size + 1 + 1) p1 p2 L (((wd.alloc o1).alloc o2).alloc (.cells #[.pointer (some ⟨g, p1, none⟩), .pointer (some ⟨g, p2, none⟩)] 150)).drew) := fun p1 p2 =>
    ⟨(((HD.out.2.1.alloc _).alloc _).alloc _).drew, ((HD.out.2.2.alloc _).alloc _).alloc _, Hn.out, by simp [go_sem], by simp [go_sem]⟩
  clear HA HB HD hi hj hi' hj'
  generalize i * (2 * m) + j = a1 at hx1 HR ⊢
  generalize op j * (2 * m) + op i = a2 at hx2 HR ⊢
  go_wp2
  go_loopw [24] (fun v wr => ∃ q : Nat, q ≤ 2 ∧ v = .int .i64 q ∧ Hid (LS w base g len c (wd.heap.size + 1 + 1) (a1 * 2) (a2 * 2) (lsq L a1 a2 h x q) wr)) (fun v _ => 2 - (intOf v).toNat)
  case atStart => exact ⟨0, by omega, rfl, HS0.out _ _⟩
  case round =>
    obtain ⟨q, hq, rfl, HV⟩ := hrel
    clear HS0
    by_cases hq2 : q < 2
    · rcases Nat.lt_or_ge q 1 with h1 | h1
      · obtain rfl : q = 0 := by omega
        have b0 := HV.out.c0
        have c0 := HV.out.row.at0 HV.out.ln hx1
        have cm := HV.out.row.at1 HV.out.ln hx1
        have fr0 := HV.out.row.free HV.out.ln (a1 * 2)
        have fr1 := HV.out.row.free HV.out.ln (a1 * 2 + 1)
        have HS : Hid (lsq L a1 a2 h x (0 + 1) = leastL (lsq L a1 a2 h x 0) a1 h x) := rfl
        generalize lsq L a1 a2 h x 0 = X at HV HS c0 cm
        have HPut := Lib.hid (fun a y => HV.out.put hbs a1 a y)
        have HNo := Lib.hid (fun e => leastL_no (L := X) (k := a1) (h := h) (m := x) e)
        have HYes := Lib.hid (fun e => leastL_yes (L := X) (k := a1) (h := h) (m := x) e)
        generalize cg X a1 = y at c0 cm HNo HYes
        obtain ⟨yh, ym⟩ := y
        simp only at c0 cm HNo HYes
        cases h with
        | false =>
          go_wp2
          exact ⟨⟨0 + 1, by omega, by go_num, by show LS _ _ _ _ _ _ _ _ _ _; rw [HS.out, HNo.out rfl]; exact HV.out⟩, by simp [intOf]⟩
        | true =>
          cases yh with
          | false =>
            go_wp2
            exact ⟨⟨0 + 1, by omega, by go_num, by show LS _ _ _ _ _ _ _ _ _ _; rw [HS.out, HYes.out rfl]; exact HPut.out true x⟩, by simp [intOf]⟩
          | true =>
            by_cases hc : x < ym
            · have hc' : decide (x < ym) = true := decide_eq_true hc
              go_wp2
              exact ⟨⟨0 + 1, by omega, by go_num, by show LS _ _ _ _ _ _ _ _ _ _; rw [HS.out, HYes.out (by simp [hc])]; exact HPut.out true x⟩, by simp [intOf]⟩
            · have hc' : decide (x < ym) = false := decide_eq_false hc
              go_wp2
              exact ⟨⟨0 + 1, by omega, by go_num, by show LS _ _ _ _ _ _ _ _ _ _; rw [HS.out, HNo.out (by simp [hc])]; exact HV.out⟩, by simp [intOf]⟩
      · obtain rfl : q = 1 := by omega
        have b0 := HV.out.c1
        have c0 := HV.out.row.at0 HV.out.ln hx2
        have cm := HV.out.row.at1 HV.out.ln hx2
        have fr0 := HV.out.row.free HV.out.ln (a2 * 2)
        have fr1 := HV.out.row.free HV.out.ln (a2 * 2 + 1)
        have HS : Hid (lsq L a1 a2 h x (1 + 1) = leastL (lsq L a1 a2 h x 1) a2 h x) := rfl
        generalize lsq L a1 a2 h x 1 = X at HV HS c0 cm
        have HPut := Lib.hid (fun a y => HV.out.put hbs a2 a y)
        have HNo := Lib.hid (fun e => leastL_no (L := X) (k := a2) (h := h) (m := x) e)
        have HYes := Lib.hid (fun e => leastL_yes (L := X) (k := a2) (h := h) (m := x) e)
        generalize cg X a2 = y at c0 cm HNo HYes
        obtain ⟨yh, ym⟩ := y
        simp only at c0 cm HNo HYes
        cases h with
        | false =>
          go_wp2
          exact ⟨⟨1 + 1, by omega, by go_num, by show LS _ _ _ _ _ _ _ _ _ _; rw [HS.out, HNo.out rfl]; exact HV.out⟩, by simp [intOf]⟩
        | true =>
          cases yh with
          | false =>
            go_wp2
            exact ⟨⟨1 + 1, by omega, by go_num, by show LS _ _ _ _ _ _ _ _ _ _; rw [HS.out, HYes.out rfl]; exact HPut.out true x⟩, by simp [intOf]⟩
          | true =>
            by_cases hc : x < ym
            · have hc' : decide (x < ym) = true := decide_eq_true hc
              go_wp2
              exact ⟨⟨1 + 1, by omega, by go_num, by show LS _ _ _ _ _ _ _ _ _ _; rw [HS.out, HYes.out (by simp [hc])]; exact HPut.out true x⟩, by simp [intOf]⟩
            · have hc' : decide (x < ym) = false := decide_eq_false hc
              go_wp2
              exact ⟨⟨1 + 1, by omega, by go_num, by show LS _ _ _ _ _ _ _ _ _ _; rw [HS.out, HNo.out (by simp [hc])]; exact HV.out⟩, by simp [intOf]⟩
    · obtain rfl : q = 2 := by omega
      go_wp2
      go_end0
      exact ⟨rfl, by rw [HR.out]; exact HV.out.row, HV.out.but⟩
theorem info_oC : (Tryd.prog.info? oC).map (fun i => (i.zero, i.size, i.bytes)) = some (some (.agg #[.bool false, .int .i64 0]), 2, 16) := by kernel_rfl

set_option maxRecDepth 100000 in
set_option maxHeartbeats 400000 in
theorem sclone_any (A : Option Addr) (n c : Nat) (L : List Cel) (w : World) (hz : RCel w A n L) (hl : n ≤ 1000) :
    Calls Tryd.prog 138 #[.slice A n c] w fun e w' => ∃ A' c', e = .returned (.slice A' n c') ∧ ZRow w' w.heap.size oC (.slice A' n c') L ∧ Below w.heap.size w w' := by
  obtain ⟨i0, hi, hz0, hz1, hz2⟩ := info_parts info_oC
  have hlen := hz.1
  have ke := fun (W : World) (A : Option Addr) (n c : Nat) => Lib.run_eql_slice_nil (P := Tryd.prog) W 72 146 A n c 0 0 Tryd.underlying72
  cases A with
  | none =>
    have h0 : n = 0 := by
      rcases Nat.eq_zero_or_pos n with h | h
      · exact h
      · obtain ⟨g, o, e, _⟩ := hz.2 h
        cases e
    subst h0
    obtain rfl : L = [] := List.eq_nil_of_length_eq_zero hlen
    clear hz
    go_enter Tryd.func138, Tryd.ntmps138
    go_wp2
    go_ret
    exact ⟨none, 0, rfl, World.ownsRow_nil _ _ _ _, Below.refl _ _⟩
  | some a =>
    have HC := Lib.hid (rcel_cells (hz.below (Go.Proofs.Rcn.below_alloc (Below.refl _ _) (.cells #[] 146))) rfl)
    clear hz
    go_enter Tryd.func138, Tryd.ntmps138
    go_wp2_with (at_builtin; refine wpList_append_own _ rfl (.tmp 5) (.tmp 6) 72 rfl w.heap.size oC i0 (.agg #[.bool false, .int .i64 0]) 2 16 Tryd.underlying72 hi hz0 hz1 hz2 rfl (by decide) (.slice (some ⟨w.heap.size, 0, none⟩) 0 0) 0 [] rfl (World.ownsRow_made w #[] 0 (Nat.le_refl _) (by simp [maxLen]) rfl) a n c (cvs L) rfl (by rw [cvs_length, hlen]) ?c1 (cvs_one L) ?c2 ?c3 ?c4 ?_)
    case c1 => exact HC.out
    case c2 => simp only [maxLen]; omega
    case c3 => omega
    case c4 => simp
    intro v' w1 hown hg hnil
    have hb1 : Below w.heap.size w w1 := ((Below.refl _ _).alloc (Nat.le_refl _) _).grown hg (by simp) (by simp [Value.ownBlock])
    have hz1 : ZRow w1 w.heap.size oC v' L := by
      rw [ZRow, hlen]
      simpa using hown
    obtain ⟨A', c', rfl⟩ := hz1.slice
    rw [hlen] at hz1
    have HO := Lib.hid hz1
    have HB := Lib.hid hb1
    clear hown hz1 hb1 hg hnil
    go_wp2
    go_ret
    exact ⟨A', c', by simp [hlen], HO.out, HB.out⟩

set_option maxRecDepth 100000 in
set_option maxHeartbeats 400000 in
theorem clone_any (A : Option Addr) (n c : Nat) (N : Int) (L : List Cel) (w : World) (hz : RCel w A n L) (hl : n ≤ 1000) :
    Calls Tryd.prog 117 #[.agg #[.int .i64 N, .slice A n c]] w fun e w' => ∃ A' c', e = .returned (.agg #[.int .i64 N, .slice A' n c']) ∧ ZRow w' w.heap.size oC (.slice A' n c') L ∧ Below w.heap.size w w' := by
  have HZ := Lib.hid hz
  clear hz
  go_enter Tryd.func117, Tryd.ntmps117
  go_wp2
  go_region_held3 (fun w' => w'.cell? ⟨w.heap.size, 0, none⟩ = some (.int .i64 N) ∧ w'.cell? ⟨w.heap.size, 1, none⟩ = some (.slice A n c))
    (first | go_keep | exact ⟨(hb.cell (p := ⟨w.heap.size, 0, none⟩) (by simp <;> omega)).trans (by go_simp), (hb.cell (p := ⟨w.heap.size, 1, none⟩) (by simp <;> omega)).trans (by go_simp)⟩)
    ((go_at_call 138; refine (sclone_any A n c L _ (HZ.out.below (by repeat (first | exact Below.refl _ _ | refine Go.Proofs.Rcn.below_alloc ?_ _ | refine Go.Proofs.Rcn.below_drew ?_))) hl).mono ?_; rintro e w1 ⟨A1, c1, rfl, hr, hb⟩; have q0 := hb.cell (p := ⟨w.heap.size + 1, 0, none⟩) (by simp <;> omega); have q1 := hb.cell (p := ⟨w.heap.size + 1, 1, none⟩) (by simp <;> omega); have q2 := hb.frozen (p := ⟨w.heap.size + 1, 0, none⟩) (by simp <;> omega); have q3 := hb.frozen (p := ⟨w.heap.size + 1, 1, none⟩) (by simp <;> omega); have q4 : w.heap.size + 1 < w1.heap.size := (by have := hb.size; simp at this; omega)))
  go_wp2
  refine bodyPost_ret (v := .agg #[.int .i64 N, .slice A1 n c1]) (by simp [results, Tryd.results117, go_sem, q0, q1, q4]) rfl ⟨A1, c1, rfl, ?_, ?_⟩
  · have h1 := ownsRow_setCell_below hr.out (a := ⟨w.heap.size + 1, 0, none⟩) (by simp <;> omega) (.int .i64 N)
    have h2 := ownsRow_setCell_below h1 (a := ⟨w.heap.size + 1, 1, none⟩) (by simp <;> omega) (.slice A1 n c1)
    exact ZRow.low h2 (by simp <;> omega)
  · exact (((((Below.refl _ _).alloc (Nat.le_refl _) _).alloc (by simp) _).drew.trans (hb.mono (by simp <;> omega))).setCell (by simp <;> omega) _).setCell (by simp <;> omega) _
theorem op_even {n i : Nat} {N : Int} (h2 : 2 * N = n) (h : i < n) : op i < n := by
  obtain ⟨m, rfl⟩ : ∃ m, n = 2 * m := ⟨n / 2, by omega⟩
  exact op_lt h
end Go.Proofs.Rco
set_option linter.unusedVariables false
set_option linter.unusedSimpArgs false
namespace Go.Proofs.Rco
open Go Go.RowKit Go.Proofs.Rcn Go.Proofs.Rcg Go.Proofs.YtcalcnfppnbooaaDoor.Z Go.Proofs.YtcalcnfppnbooaaDoorW.PrintWords
theorem sq_four {N : Int} {n : Nat} (hn : 2 * N = n) : 4 * N * N = ((n * n : Nat) : Int) := by
  have e : (n : Int) * n = 4 * N * N := by
    rw [← hn, show (2 * N) * (2 * N) = 2 * (N * (2 * N)) from Int.mul_assoc _ _ _, show N * (2 * N) = 2 * (N * N) by rw [← Int.mul_assoc, Int.mul_comm N 2, Int.mul_assoc], Int.mul_assoc 4 N N]
    omega
  rw [← e]
  push_cast
  rfl
theorem len_sq {N : Int} {n l : Nat} (hn : 2 * N = n) (h : (l : Int) = 4 * N * N) : l = n * n := by
  rw [sq_four hn] at h
  exact_mod_cast h
theorem cg_ocels (l : List OC) (j : Nat) (h : j < l.length) : cg (ocels l) j = ocel l[j] := by
  simp [cg, ocels, List.getD_eq_getElem?_getD, List.getElem?_map, List.getElem?_eq_getElem h]
theorem rcel_of_C {w : World} {A : Option Addr} {l : List OC} (h : Kd.C k146 w A l.length l) : RCel w A l.length (ocels l) := by
  refine ⟨ocels_length l, fun hn => ?_⟩
  obtain ⟨ad, e, hc⟩ := h.2.2 hn
  have each : ∀ j, j < l.length → w.cell? (ad.add (j * 2)) = some (.bool (cg (ocels l) j).has) ∧ w.cell? (ad.add (j * 2 + 1)) = some (.int .i64 (cg (ocels l) j).most) := by
    intro j hj
    obtain ⟨c, hl, hk, hx⟩ := hc j _ (List.getElem?_eq_getElem hj)
    obtain rfl := k146_open hk
    have h0 := hx 0 _ rfl
    have h1 := hx 1 _ rfl
    rw [cg_ocels l j hj]
    exact ⟨h0, h1⟩
  have hsp : ad.spot = none := by
    have := World.cell?_spot (each 0 hn).1
    simpa [Addr.add] using this
  refine ⟨ad.block, ad.off, by rw [e]; cases ad; simp only at hsp; subst hsp; rfl, fun j hj => ?_⟩
  have := each j hj
  rw [flat_addr hsp, flat_addr hsp] at this
  exact this
theorem R_of_zrow {w : World} {base : Nat} {v : Value} {L : List Cel} (h : ZRow w base oC v L) : Kd.R k146 146 w base (fun _ => True) v (oces L) := by
  refine ⟨fun _ _ => trivial, cvs L, ?_, by rw [cvs_length, oces_length]; rfl, ?_⟩
  · have := h.out
    rw [oces_length]
    exact this
  · intro j p hp
    have hj : j < L.length := by have := (List.getElem?_eq_some_iff.1 hp).1; rwa [oces_length] at this
    have e : L[j]? = some (ocel p) := by
      rw [List.getElem?_eq_getElem hj]
      simp only [oces, List.getElem?_map, List.getElem?_eq_getElem hj, Option.map_some, Option.some.injEq] at hp
      rw [← hp]
      rfl
    have := cvs_part L j _ e
    show k146.M w base _ p (((cvs L).drop (j * 2)).take 2)
    rw [this]
    exact k146_mkM _ _ _ p
theorem R_nilZ (w : World) (base : Nat) : Kd.R k146 146 w base (fun _ => True) (.slice none 0 0) ([] : List OC) := Kd.R_nil _ _ _ _ _

theorem zfar_any (m : Int) (w : World) : Calls Tryd.prog 106 #[.int .i64 m] w fun e w' => e = .returned (.bool (zfar m)) ∧ w' = w := by
  unfold zfar
  by_cases h1 : (1099511627776 : Int) < m
  · have h1' : decide ((1099511627776 : Int) < m) = true := decide_eq_true h1
    rw [decide_eq_true (.inl h1)]
    go_enter Tryd.func106, Tryd.ntmps106
    go_wp2
    go_ret
    exact ⟨rfl, rfl⟩
  · have h1' : decide ((1099511627776 : Int) < m) = false := decide_eq_false h1
    by_cases h2 : m < -1099511627776
    · have h2' : decide (m < -1099511627776) = true := decide_eq_true h2
      rw [decide_eq_true (.inr h2)]
      go_enter Tryd.func106, Tryd.ntmps106
      go_wp2
      go_ret
      exact ⟨rfl, rfl⟩
    · have h2' : decide (m < -1099511627776) = false := decide_eq_false h2
      rw [decide_eq_false (by omega)]
      go_enter Tryd.func106, Tryd.ntmps106
      go_wp2
      go_ret
      exact ⟨rfl, rfl⟩
theorem zlit_any (h : Bool) (m : Int) (w : World) : Calls Tryd.prog 110 #[.agg #[.bool h, .int .i64 m]] w fun e w' => e = .returned (.bool (zfar m)) ∧ Below w.heap.size w w' := by
  cases hf : zfar m
  all_goals
    have hc := fun W => zfar_any m W
    rw [hf] at hc
    go_enter Tryd.func110, Tryd.ntmps110
    go_wp2_with (go_at_call 106; refine (hc _).mono ?_; rintro e w' ⟨rfl, rfl⟩)
    go_ret
    exact ⟨rfl, Go.Proofs.Rcn.below_alloc (Below.refl _ _) _⟩

set_option maxRecDepth 100000 in
set_option maxHeartbeats 1000000 in
theorem zindex_any (A : Option Addr) (n c : Nat) (L : List Cel) (w : World) (hz : RCel w A n L) (hl : n ≤ 1000) :
    Calls Tryd.prog 135 #[.slice A n c, .func (.func 110) #[] #[]] w (IdxPost L w) := by
  have HL := Lib.hid hz.1
  have HZ := Lib.hid hz
  clear hz
  go_enter Tryd.func135, Tryd.ntmps135
  go_wp2
  go_loopg [5, 8] n (fun gg _ s8 wr => ∃ kk : Nat, kk ≤ n ∧ n - kk ≤ gg ∧ s8 = .int .i64 kk ∧ Hid (Below w.heap.size w wr) ∧ Hid (∀ j, j < kk → zfar (cg L j).most = false))
  case atStart => exact ⟨0, Nat.zero_le _, by omega, rfl, Below.refl _ w, fun j hj => absurd hj (Nat.not_lt_zero _)⟩
  case round =>
    obtain ⟨kk, hkk, hg, rfl, BW, HA⟩ := hrel
    by_cases hlt : kk < n
    · have hltz : (kk : Int) < (n : Int) := by omega
      obtain ⟨g, o, rfl, hcell⟩ := (HZ.out.below BW.out).2 (by omega)
      have c0 := (hcell kk hlt).1
      have c1 := (hcell kk hlt).2
      clear hcell
      have HK : Hid (∀ b : Bool, zfar (cg L kk).most = b → zfar (cg L kk).most = b) := fun _ h => h
      generalize (cg L kk).has = a at c0
      generalize hm : (cg L kk).most = m at c1
      have HM := Lib.hid hm
      clear hm
      have hc := fun W => zlit_any a m W
      cases hf : zfar m with
      | true =>
        have HF := Lib.hid hf
        rw [hf] at hc
        clear hf
        go_wp2_with (go_at_call 110; refine (hc _).mono ?_; rintro e w1 ⟨rfl, hb1⟩)
        go_ret
        exact ⟨⟨_, rfl, .inr ⟨kk, rfl, by rw [HL.out]; exact hlt, by show zfar _ = true; rw [HM.out]; exact HF.out⟩⟩, below_then BW.out hb1⟩
      | false =>
        have HF := Lib.hid hf
        rw [hf] at hc
        clear hf
        go_wp2_with (go_at_call 110; refine (hc _).mono ?_; rintro e w1 ⟨rfl, hb1⟩; have HB1 := Lib.hid hb1; clear hb1)
        go_roundg (n - (kk + 1))
        case measure => omega
        case rel => exact ⟨kk + 1, by omega, by omega, by go_num, below_then BW.out HB1.out, fun j hj => by
          rcases Nat.lt_or_ge j kk with h | h
          · exact HA.out j h
          · obtain rfl : j = kk := by omega
            rw [HM.out]
            exact HF.out⟩
    · obtain rfl : kk = n := by omega
      go_wp2
      go_ret
      exact ⟨⟨_, rfl, .inl ⟨rfl, fun j hj => HA.out j (by rw [HL.out] at hj; exact hj)⟩⟩, BW.out⟩
set_option maxRecDepth 100000 in
theorem zcont_any (A : Option Addr) (n c : Nat) (L : List Cel) (w : World) (hz : RCel w A n L) (hl : n ≤ 1000) :
    Calls Tryd.prog 109 #[.slice A n c, .func (.func 110) #[] #[]] w fun e w' => e = .returned (.bool (L.any fun c => zfar c.most)) ∧ Below w.heap.size w w' := by
  have hi := fun W (h : Below w.heap.size w W) => zindex_any A n c L W (hz.below h) hl
  clear hz
  have HI := Lib.hid hi
  clear hi
  obtain ⟨r, hr⟩ : ∃ r : Bool, r = L.any fun c => zfar c.most := ⟨_, rfl⟩
  rw [← hr]
  have HR := Lib.hid hr
  clear hr
  go_enter Tryd.func109, Tryd.ntmps109
  go_wp2_with fail
  refine (HI.out _ (Below.refl _ _)).mono ?_
  rintro e w1 ⟨⟨q, rfl, hq⟩, hb⟩
  have HB := Lib.hid hb
  clear hb
  rcases hq with ⟨rfl, hn⟩ | ⟨k, rfl, hk, hp⟩
  · obtain rfl : r = false := by
      rw [HR.out]
      refine Bool.eq_false_iff.2 fun h => ?_
      obtain ⟨k, hk, hf⟩ := (anyFar L).1 h
      have h3 : zfar (cg L k).most = false := hn k hk
      rw [hf] at h3
      cases h3
    clear hn
    go_wp2
    go_ret
    exact ⟨rfl, HB.out⟩
  · obtain rfl : r = true := by
      rw [HR.out]
      exact (anyFar L).2 ⟨k, hk, hp⟩
    clear hk hp
    go_wp2
    go_ret
    exact ⟨rfl, HB.out⟩
theorem oErr_eq (N : Int) (L : List Cel) : oErr N L = if N < 0 ∨ N > 4 then some 2 else if (L.length : Int) ≠ 4 * N * N then some 3 else if L.any bad = true then some 3 else if (L.any fun c => zfar c.most) = true then some 2 else if cohB (2 * N).toNat L = true then none else some 7 := rfl
theorem cohB_true {n : Nat} {L : List Cel} (h : ∀ a, a < n → ∀ b, b < n → cg L (a * n + b) = cg L (op b * n + op a)) : cohB n L = true := by
  unfold cohB
  simp only [List.all_eq_true, List.mem_range, decide_eq_true_eq]
  exact h
theorem cohB_iff {n : Nat} {L : List Cel} : cohB n L = true ↔ ∀ a, a < n → ∀ b, b < n → cg L (a * n + b) = cg L (op b * n + op a) := by
  unfold cohB
  simp only [List.all_eq_true, List.mem_range, decide_eq_true_eq]
theorem cohB_false {n a b : Nat} {L : List Cel} (ha : a < n) (hb : b < n) (h : cg L (a * n + b) ≠ cg L (op b * n + op a)) : cohB n L = false := by
  rw [Bool.eq_false_iff]
  intro q
  exact h (cohB_iff.1 q a ha b hb)
theorem at_two (n i j g o len c : Nat) (N : Int) (W : World) (h2 : 2 * N = n) (hn : n ≤ 8) (hl : len = n * n) (hi : i < n) (hj : j < n) :
    Calls Tryd.prog 107 #[.agg #[.int .i64 N, .slice (some ⟨g, o, none⟩) len c], .int .i64 i, .int .i64 j] W fun e w' => e = .returned (.pointer (some ⟨g, o + (i * n + j) * 2, none⟩)) ∧ ∃ o, w' = W.alloc o := by
  obtain ⟨m, rfl⟩ : ∃ m, n = 2 * m := ⟨n / 2, by omega⟩
  have h1 := idx_lt hi hj
  have h3 : 2 * m * (2 * m) ≤ 8 * 8 := Nat.mul_le_mul hn hn
  have := at_gen m i j g o len c N W (by omega) (by omega) (by omega) (by omega) (by rw [Nat.mul_assoc, hl]; exact h1) (by omega)
  rw [Nat.mul_assoc] at this
  exact this
theorem eqAo (d : Nat) (w : World) (x0 y0 : Bool) (x1 y1 : Int) :
    (Op.equalIn (d + 2) 146 (.agg #[.bool x0, .int .i64 x1]) (.agg #[.bool y0, .int .i64 y1])).run Tryd.prog w = .ok (x0 == y0 && (x1 == y1)) w := by
  refine eqA_of Tryd.underlying146 (by kernel_rfl) ?_
  refine eqf_cons (by rfl) (by go_simp; rfl) (by go_simp; rfl) (by go_simp) ?_
  exact eqf_last (by rfl) (by go_simp; rfl) (by go_simp; rfl) (by go_simp)
theorem ne_cel (x y : Cel) : ((!(x.has == y.has) || !(x.most == y.most)) = false → x = y) ∧ ((!(x.has == y.has) || !(x.most == y.most)) = true → x ≠ y) := by
  obtain ⟨a, m⟩ := x
  obtain ⟨b, k⟩ := y
  constructor
  · intro h
    simp at h
    rw [h.1, h.2]
  · rintro h e
    simp only [Cel.mk.injEq] at e
    rw [e.1, e.2] at h
    simp at h
attribute [local go_sem high] eqAo
set_option maxRecDepth 100000 in
set_option maxHeartbeats 2000000 in
/-- Behind the tests of the sizes. -/
theorem zvalid_any [EA] (A : Option Addr) (n c : Nat) (N : Int) (L : List Cel) (w : World) (hz : RCel w A n L) (h2 : ErrAt 2 1 w) (h3 : ErrAt 3 0 w) (h7 : ErrAt 7 3 w) :
    Calls Tryd.prog 46 #[.agg #[.int .i64 N, .slice A n c]] w (VPost (oErr N L) w) := by
  have HL := Lib.hid hz.1
  have HZ := Lib.hid hz
  have HE2 := Lib.hid h2
  have HE3 := Lib.hid h3
  have c2 := h2.cell
  have c3 := h3.cell
  have l2 := h2.lt
  have l3 := h3.lt
  have HR : Hid (∀ r, r = oErr N L → r = oErr N L) := fun _ h => h
  have HE7 := Lib.hid h7
  have c7 := h7.cell
  have l7 := h7.lt
  clear hz h2 h3 h7
  by_cases hN1 : N < 0
  · obtain ⟨r, hr⟩ : ∃ r, r = oErr N L := ⟨_, rfl⟩
    rw [← hr]
    obtain rfl : r = some 2 := by rw [hr, oErr_eq, if_pos (.inl hN1)]
    clear hr
    go_enter Tryd.func46, Tryd.ntmps46
    go_wp2
    go_ret
    exact ⟨rfl, Go.Proofs.Rcn.below_alloc (Below.refl _ _) _⟩
  by_cases hN2 : 4 < N
  · obtain ⟨r, hr⟩ : ∃ r, r = oErr N L := ⟨_, rfl⟩
    rw [← hr]
    obtain rfl : r = some 2 := by rw [hr, oErr_eq, if_pos (.inr hN2)]
    clear hr
    go_enter Tryd.func46, Tryd.ntmps46
    go_wp2
    go_ret
    exact ⟨rfl, Go.Proofs.Rcn.below_alloc (Below.refl _ _) _⟩
  obtain ⟨m, hm⟩ : ∃ m : Int, m = 4 * N * N := ⟨_, rfl⟩
  have hmb : 0 ≤ m ∧ m ≤ 64 := by
    have : N = 0 ∨ N = 1 ∨ N = 2 ∨ N = 3 ∨ N = 4 := by omega
    rcases this with rfl | rfl | rfl | rfl | rfl <;> omega
  have hw : IntKind.i64.wrap (4 * N * N) = m := by rw [← hm]; exact IntWalk.i64_in _ (by omega)
  have hN3 : ¬ (N < 0 ∨ N > 4) := by omega
  have HM := Lib.hid hm
  have HN3 := Lib.hid hN3
  clear hm hN3
  by_cases hlen : (n : Int) = m
  · subst hlen
    clear hmb
    have hn : n ≤ 64 := by
      have h5 := HM.out
      have : N = 0 ∨ N = 1 ∨ N = 2 ∨ N = 3 ∨ N = 4 := by omega
      rcases this with rfl | rfl | rfl | rfl | rfl <;> omega
    have HV : Hid (∀ r, r = (if L.any bad = true then some 3 else if (L.any fun c => zfar c.most) = true then some 2 else if cohB (2 * N).toNat L = true then none else some 7) → r = oErr N L) := fun r hr => by
      rw [hr, oErr_eq, if_neg HN3.out, if_neg (show ¬ ((L.length : Int) ≠ 4 * N * N) from fun h => h (by rw [HL.out]; exact HM.out))]
    obtain ⟨w1, hw1⟩ : ∃ w1, w1 = w.alloc (.cells #[.int .i64 N, .slice A n c] 74) := ⟨_, rfl⟩
    have hb1 : Below w.heap.size w w1 := by rw [hw1]; exact Go.Proofs.Rcn.below_alloc (Below.refl _ _) _
    have b0 : w1.cell? ⟨w.heap.size, 0, none⟩ = some (.int .i64 N) := by rw [hw1]; simp [go_sem]
    have b1 : w1.cell? ⟨w.heap.size, 1, none⟩ = some (.slice A n c) := by rw [hw1]; simp [go_sem]
    have hs1 : w.heap.size < w1.heap.size := by rw [hw1]; simp
    have HW1 := Lib.hid hw1
    have HB1 := Lib.hid hb1
    have HC0 := Lib.hid b0
    have HC1 := Lib.hid b1
    have HS1 := Lib.hid hs1
    clear hw1 hb1 b0 b1 hs1
    obtain ⟨r, hr⟩ : ∃ r, r = oErr N L := ⟨_, rfl⟩
    rw [← hr]
    have HRR := Lib.hid hr
    clear hr HR
    go_enter Tryd.func46, Tryd.ntmps46
    go_wp2
    go_loopg [30] n (fun gg s30 wr => ∃ kk : Nat, kk ≤ n ∧ n - kk ≤ gg ∧ s30 = .int .i64 kk ∧ Hid (Below w1.heap.size w1 wr) ∧ Hid (∀ j, j < kk → bad (cg L j) = false))
    case atStart => exact ⟨0, Nat.zero_le _, by omega, rfl, by show Below _ _ _; rw [HW1.out]; exact Below.refl _ _, fun j hj => absurd hj (Nat.not_lt_zero _)⟩
    case round =>
      obtain ⟨kk, hkk, hg, rfl, BW, HA⟩ := hrel
      have HBW : Hid (Below w.heap.size w wr) := HB1.out.trans (BW.out.mono (Nat.le_of_lt HS1.out))
      have d2 := (HE2.out.below HBW.out).cell
      have d3 := (HE3.out.below HBW.out).cell
      have d2l := (HE2.out.below HBW.out).lt
      have d3l := (HE3.out.below HBW.out).lt
      have k0 := (BW.out.cell (p := ⟨w.heap.size, 0, none⟩) HS1.out).trans HC0.out
      have k1 := (BW.out.cell (p := ⟨w.heap.size, 1, none⟩) HS1.out).trans HC1.out
      have ks : w.heap.size < wr.heap.size := Nat.lt_of_lt_of_le HS1.out BW.out.size
      by_cases hlt : kk < n
      · have hltz : (kk : Int) < (n : Int) := by omega
        obtain ⟨g, o, rfl, hcell⟩ := (HZ.out.below HBW.out).2 (by omega)
        have c0 := (hcell kk hlt).1
        have c1 := (hcell kk hlt).2
        clear hcell
        generalize ha : (cg L kk).has = a at c0
        generalize hm : (cg L kk).most = m at c1
        have HX : Hid (bad (cg L kk) = bad ⟨a, m⟩) := by show bad _ = _; unfold bad; rw [ha, hm]
        clear ha hm
        have next : ∀ wr' : World, Below wr.heap.size wr wr' → Below w1.heap.size w1 wr' := fun wr' h => below_then BW.out h
        have HNX := Lib.hid next
        clear next
        cases a with
        | true =>
          go_wp2
          go_roundg (n - (kk + 1))
          case measure => omega
          case rel => exact ⟨kk + 1, by omega, by omega, by go_num, HNX.out _ (by repeat (first | exact Below.refl _ _ | refine Go.Proofs.Rcn.below_alloc ?_ _ | refine below_set ?_ (Nat.le_refl _) _ | refine below_drew ?_)), fun j hj => by
            rcases Nat.lt_or_ge j kk with h | h
            · exact HA.out j h
            · obtain rfl : j = kk := by omega
              rw [HX.out]; rfl⟩
        | false =>
          by_cases hm0 : m = 0
          · subst hm0
            go_wp2
            go_roundg (n - (kk + 1))
            case measure => omega
            case rel => exact ⟨kk + 1, by omega, by omega, by go_num, HNX.out _ (by repeat (first | exact Below.refl _ _ | refine Go.Proofs.Rcn.below_alloc ?_ _ | refine below_set ?_ (Nat.le_refl _) _ | refine below_drew ?_)), fun j hj => by
              rcases Nat.lt_or_ge j kk with h | h
              · exact HA.out j h
              · obtain rfl : j = kk := by omega
                rw [HX.out]; rfl⟩
          · have hm1 : (m != 0) = true := by simpa using hm0
            have hm2 : (m == 0) = false := by simpa using hm0
            clear hm0
            obtain rfl : r = some 3 := by
              rw [HRR.out]
              refine (HV.out (some 3) ?_).symm
              rw [if_pos (anyBad_true (by rw [HL.out]; exact hlt) (by rw [HX.out]; simp [bad, hm1]))]
            go_wp2
            go_ret
            exact ⟨rfl, below_then HBW.out (by repeat (first | exact Below.refl _ _ | refine Go.Proofs.Rcn.below_alloc ?_ _ | refine below_set ?_ (Nat.le_refl _) _ | refine below_drew ?_))⟩
      · obtain rfl : kk = n := by omega
        have HAB : Hid (L.any bad = false) := anyBad_false fun j hj => HA.out j (by rw [HL.out] at hj; exact hj)
        have HZ' := Lib.hid (HZ.out.below HBW.out)
        obtain ⟨f, hf⟩ : ∃ f, f = L.any fun c => zfar c.most := ⟨_, rfl⟩
        have hc := fun W h => zcont_any A kk c L W (HZ'.out.below h) (by omega)
        rw [← hf] at hc
        have HF := Lib.hid hf
        have HCC := Lib.hid hc
        clear hf hc
        cases f with
        | true =>
          obtain rfl : r = some 2 := by
            rw [HRR.out]
            refine (HV.out (some 2) ?_).symm
            rw [HAB.out, ← HF.out]
            rfl
          go_wp2_with fail
          refine (HCC.out _ (Below.refl _ _)).mono ?_
          rintro e w2 ⟨rfl, hb2⟩
          have e2 := (HE2.out.below (below_then HBW.out hb2)).cell
          have e2l := (HE2.out.below (below_then HBW.out hb2)).lt
          have HB2 := Lib.hid hb2
          clear hb2
          go_wp2
          go_ret
          exact ⟨rfl, below_then HBW.out HB2.out⟩
        | false =>
          obtain ⟨n2, h2N⟩ : ∃ n2 : Nat, 2 * N = n2 := ⟨(2 * N).toNat, by omega⟩
          have hn8 : n2 ≤ 8 := by omega
          have hkk2 : kk = n2 * n2 := len_sq h2N HM.out
          have HKK := Lib.hid hkk2
          have Hop := Lib.hid (fun i => op_even (i := i) h2N)
          have HN2 := Lib.hid h2N
          have HV2 : Hid (∀ r, r = (if cohB n2 L = true then none else some 7) → r = oErr N L) := fun r hr => HV.out r (by
            rw [if_neg (by rw [HAB.out]; decide), ← HF.out, if_neg (by decide), show (2 * N).toNat = n2 by omega]
            exact hr)
          clear hkk2 hkk
          go_wp2_with fail
          refine (HCC.out _ (Below.refl _ _)).mono ?_
          rintro e w2 ⟨rfl, hb2⟩
          have HB2 : Hid (Below w1.heap.size w1 w2) := below_then BW.out hb2
          clear hb2
          have HSS : Hid (∀ W, Below w1.heap.size w1 W → (W.cell? ⟨w.heap.size, 0, none⟩ = some (.int .i64 N) ∧ W.cell? ⟨w.heap.size, 1, none⟩ = some (.slice A kk c))) := fun W hW => ⟨(hW.cell (p := ⟨w.heap.size, 0, none⟩) HS1.out).trans HC0.out, (hW.cell (p := ⟨w.heap.size, 1, none⟩) HS1.out).trans HC1.out⟩
          have h2N := HN2.out
          obtain ⟨k0, k1⟩ := HSS.out _ HB2.out
          clear ks
          have ks : w.heap.size < w2.heap.size := Nat.lt_of_lt_of_le HS1.out HB2.out.size
          go_wp2
          clear k0 k1 ks
          go_loopw [51] (fun v wr => ∃ a : Nat, a ≤ n2 ∧ v = .int .i64 a ∧ Hid (Below w1.heap.size w1 wr) ∧ Hid (∀ x, x < a → ∀ y, y < n2 → cg L (x * n2 + y) = cg L (op y * n2 + op x))) (fun v _ => n2 - (intOf v).toNat)
          case atStart => exact ⟨0, Nat.zero_le _, rfl, HB2, fun x hx => absurd hx (Nat.not_lt_zero _)⟩
          case round =>
            obtain ⟨a, ha, rfl, BA, HA2⟩ := hrel
            clear HB2
            by_cases hlt : a < n2
            case neg =>
              obtain rfl : a = n2 := by omega
              obtain rfl : r = none := by
                rw [HRR.out]
                refine (HV2.out none ?_).symm
                rw [cohB_true HA2.out]
                rfl
              go_wp2
              go_ret
              exact ⟨rfl, HB1.out.trans (BA.out.mono (Nat.le_of_lt HS1.out))⟩
            obtain ⟨wo, rfl⟩ : ∃ wo : World, wo = wr := ⟨_, rfl⟩
            obtain ⟨k0, k1⟩ := HSS.out _ BA.out
            have ks : w.heap.size < wo.heap.size := Nat.lt_of_lt_of_le HS1.out BA.out.size
            go_wp2
            clear k0 k1 ks
            go_loopg [57] (n2 + 1) (fun gk v wr => ∃ b : Nat, b ≤ n2 ∧ n2 + 1 = b + gk ∧ v = .int .i64 b ∧ Hid (Below w1.heap.size w1 wr) ∧ Hid (∀ y, y < b → cg L (a * n2 + y) = cg L (op y * n2 + op a)))
            case atStart => exact ⟨0, Nat.zero_le _, by omega, rfl, BA, fun x hx => absurd hx (Nat.not_lt_zero _)⟩
            case round =>
              obtain ⟨b, hb, hgk, rfl, BB, HB3⟩ := hrel
              clear BA
              by_cases hlt3 : b < n2
              case neg =>
                obtain rfl : b = n2 := by omega
                go_wp2
                exact ⟨⟨a + 1, by omega, by go_num, BB, fun x hx => by
                  rcases Nat.lt_or_ge x a with h | h
                  · exact HA2.out x h
                  · obtain rfl : x = a := by omega
                    exact HB3.out⟩, by simp [intOf]; omega⟩
              have q1 := xor_op a (by omega)
              have q2 := xor_op b (by omega)
              have hopa := Hop.out a hlt
              have hopb := Hop.out b hlt3
              have hx1 : a * n2 + b < kk := by rw [HKK.out]; exact idx_lt hlt hlt3
              have hx2 : op b * n2 + op a < kk := by rw [HKK.out]; exact idx_lt hopb hopa
              obtain ⟨g, o, rfl, _⟩ := HZ'.out.2 (by omega)
              have HS2 : Hid (∀ W, Below w1.heap.size w1 W → Below w1.heap.size w1 W ∧ (W.cell? ⟨w.heap.size, 0, none⟩ = some (.int .i64 N) ∧ W.cell? ⟨w.heap.size, 1, none⟩ = some (.slice (some ⟨g, o, none⟩) kk c)) ∧
                  (W.cell? ⟨g, o + (a * n2 + b) * 2, none⟩ = some (.bool (cg L (a * n2 + b)).has) ∧ W.cell? ⟨g, o + (a * n2 + b) * 2 + 1, none⟩ = some (.int .i64 (cg L (a * n2 + b)).most)) ∧
                  (W.cell? ⟨g, o + (op b * n2 + op a) * 2, none⟩ = some (.bool (cg L (op b * n2 + op a)).has) ∧ W.cell? ⟨g, o + (op b * n2 + op a) * 2 + 1, none⟩ = some (.int .i64 (cg L (op b * n2 + op a)).most))) := fun W hW => by
                obtain ⟨g', o', e, hc⟩ := (HZ.out.below (HB1.out.trans (hW.mono (Nat.le_of_lt HS1.out)))).2 (by omega)
                obtain ⟨rfl, rfl⟩ : g = g' ∧ o = o' := by simpa using e
                exact ⟨hW, HSS.out W hW, hc _ hx1, hc _ hx2⟩
              go_upto_region 19 with fail
              go_cut [74] (fun v wc => v = .bool (!((cg L (a * n2 + b)).has == (cg L (op b * n2 + op a)).has) || !((cg L (a * n2 + b)).most == (cg L (op b * n2 + op a)).most)) ∧ Hid (Below w1.heap.size w1 wc))
              case first =>
                go_region_held3 (fun W => Below w1.heap.size w1 W ∧ (W.cell? ⟨w.heap.size, 0, none⟩ = some (.int .i64 N) ∧ W.cell? ⟨w.heap.size, 1, none⟩ = some (.slice (some ⟨g, o, none⟩) kk c)) ∧
                  (W.cell? ⟨g, o + (a * n2 + b) * 2, none⟩ = some (.bool (cg L (a * n2 + b)).has) ∧ W.cell? ⟨g, o + (a * n2 + b) * 2 + 1, none⟩ = some (.int .i64 (cg L (a * n2 + b)).most)) ∧
                  (W.cell? ⟨g, o + (op b * n2 + op a) * 2, none⟩ = some (.bool (cg L (op b * n2 + op a)).has) ∧ W.cell? ⟨g, o + (op b * n2 + op a) * 2 + 1, none⟩ = some (.int .i64 (cg L (op b * n2 + op a)).most)))
                  (exact HS2.out _ (by repeat (first | exact BB.out | refine Go.Proofs.Rcn.below_alloc ?_ _ | refine Go.Proofs.Rcn.below_drew ?_)))
                  ((go_at_call 107; refine (at_two n2 _ _ g o kk c N _ HN2.out hn8 HKK.out (by assumption) (by assumption)).mono ?_; rintro e w3 ⟨rfl, o3, rfl⟩))
                all_goals (go_wp2_with fail; go_meet)
                all_goals exact ⟨rfl, And.left (by assumption)⟩
              case rest =>
                obtain ⟨rfl, BC⟩ := hcut
                have HEq := Lib.hid (ne_cel (cg L (a * n2 + b)) (cg L (op b * n2 + op a)))
                clear HS2 BB q1 q2
                have d7 := (HE7.out.below (HB1.out.trans (BC.out.mono (Nat.le_of_lt HS1.out)))).cell
                have d7l := (HE7.out.below (HB1.out.trans (BC.out.mono (Nat.le_of_lt HS1.out)))).lt
                generalize (!((cg L (a * n2 + b)).has == (cg L (op b * n2 + op a)).has) || !((cg L (a * n2 + b)).most == (cg L (op b * n2 + op a)).most)) = t at HEq ⊢
                cases t with
                | false =>
                  have HXY := Lib.hid (HEq.out.1 rfl)
                  clear HEq
                  go_wp2
                  go_roundg (gk - 1)
                  case measure => omega
                  case rel => exact ⟨b + 1, by omega, by omega, by go_num, BC, fun y hy => by
                    rcases Nat.lt_or_ge y b with h | h
                    · exact HB3.out y h
                    · obtain rfl : y = b := by omega
                      exact HXY.out⟩
                | true =>
                  obtain rfl : r = some 7 := by
                    rw [HRR.out]
                    refine (HV2.out (some 7) ?_).symm
                    rw [cohB_false hlt hlt3 (HEq.out.2 rfl)]
                    rfl
                  go_wp2
                  go_ret
                  exact ⟨rfl, HB1.out.trans (BC.out.mono (Nat.le_of_lt HS1.out))⟩
  · obtain ⟨r, hr⟩ : ∃ r, r = oErr N L := ⟨_, rfl⟩
    rw [← hr]
    obtain rfl : r = some 3 := by rw [hr, oErr_eq, if_neg HN3.out, if_pos (by rw [HL.out, ← HM.out]; exact hlen)]
    clear hr
    go_enter Tryd.func46, Tryd.ntmps46
    go_wp2
    go_ret
    exact ⟨rfl, Go.Proofs.Rcn.below_alloc (Below.refl _ _) _⟩
theorem octagon_Valid.calls [EA] (a0_0 : Int) (A0_1 : Option Addr) (c0_1 : Nat) (l0_1 : List OC) (r : Option Int) (w : World) (hr0_1 : Kd.C k146 w A0_1 l0_1.length l0_1) (hc0_1 : l0_1.length ≤ c0_1) (h : octagon_Valid.f a0_0 l0_1 = some r) (h2_ : ErrAt 2 1 w) (h3_ : ErrAt 3 0 w) (h7_ : ErrAt 7 3 w) :
    Calls Tryd.prog 46 #[.agg #[.int .i64 a0_0, .slice A0_1 l0_1.length c0_1]] w fun e w' => e = .returned (errW r) ∧ Below w.heap.size w w' := by
  obtain rfl := Option.some.inj h
  exact zvalid_any A0_1 l0_1.length c0_1 a0_0 (ocels l0_1) w (rcel_of_C hr0_1) h2_ h3_ h7_
end Go.Proofs.Rco
