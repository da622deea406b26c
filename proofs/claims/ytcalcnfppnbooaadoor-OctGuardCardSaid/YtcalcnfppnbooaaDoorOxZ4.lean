import Derived.Test.YtcalcnfppnbooaaDoorOxSp
import Derived.Test.YtcalcnfppnbooaaDoorOxEb
import Derived.Test.YtcalcnfppnbooaaDoorOxFld
import Derived.Test.YtcalcnfppnbooaaDoorOxZ0
import Derived.Test.YtcalcnfppnbooaaDoorOxZ3
-- Written by wip/xprint.py (the session's program over the kit's print).
namespace Go.Proofs.YtcalcnfppnbooaaDoor.Z
open Go.RowKit Go.Proofs.YtcalcnfppnbooaaDoorW.PrintWords Go.Proofs.YtcalcnfppnbooaaDoorW.PrintLast Go.Proofs.YtcalcnfppnbooaaDoorW.PrintMore Go.Proofs.Rcg
attribute [local go_sem] Go.Proofs.Rcg.fld_zone1 Go.Proofs.Rcg.fld_rzone1 max2_int min2_int max_two min_two max_three min_three max_four min_four   -- for this text's walks alone
set_option linter.unusedVariables false
set_option linter.unusedSimpArgs false

/-! ### L2_isZone: function 27 -/
def L2_isZone.f (k : Nat) (a0_0 : Int) (l0_1 : List (S120)) (a1_0 : Int) (l1_1 : List (S67)) : Option (Bool) := if a0_0 = a1_0 then ((L2_zoneBack.f k a0_0 l0_1).bind fun bt123 => ((R2_SameCells.f k bt123.2 l1_1).bind fun t127 => (some t127))) else (some false)
theorem L2_isZone.mono : ∀ a0 a1 a2 a3 k, LeO (L2_isZone.f k a0 a1 a2 a3) (L2_isZone.f (k + 1) a0 a1 a2 a3) := by
 intro a0 a1 a2 a3 k
 unfold L2_isZone.f
 repeat' first
   | (with_reducible exact L2_zoneBack.mono _ _ _)
   | (with_reducible exact R2_SameCells.mono _ _ _)
   | (with_reducible exact LeO.refl _)
   | (with_reducible exact LeO.none _)
   | (with_reducible refine LeO.ite ?_ ?_)
   | (with_reducible refine LeO.bind ?_ (fun _ => ?_))
   | exact L2_zoneBack.mono _ _ _
   | exact R2_SameCells.mono _ _ _
   | exact LeO.none _
   | refine LeO.ite ?_ ?_
   | refine LeO.bind ?_ (fun _ => ?_)
def L2_isZone.T1 : Bool × List (List Nat × List Nat) := (true, [([], []), ([0], [0]), ([], []), ([2], [2]), ([1, 3], [1, 3]), ([4], [4]), ([5], [5]), ([6, 5, 5], [5, 6]), ([7, 5], [5, 7]), ([5], [5]), ([9, 5], [5, 9]), ([8, 10, 7, 5], [5, 8, 10]), ([5, 11], [5, 11]), ([12, 11, 0, 1, 2, 3, 4, 5, 6, 7, 8, 9, 10, 11, 12], [12])])
def L2_isZone.B1 : List Nat := [0, 1, 0, 4, 15, 31, 63, 127, 255, 63, 575, 2047, 4095, 8191]
theorem L2_isZone.tab1 : rtab .any (opsOf Tryd.f27 1) = L2_isZone.T1 := by kernel_rfl
theorem L2_isZone.bits1 : waitsOk L2_isZone.T1.2 L2_isZone.B1 = true := by kernel_rfl
/-! ### L2_free: function 14 -/
def L2_free.f (k : Nat)  : Option (Bool) := if 4 ≤ 17592186044416 then ((zone_Close.f 1 (List.replicate 4 z120)).bind fun bt131 => (if bt131.2.2.2.isNone = true then (if bt131.2.2.1 = true then ((L2_isZone.f k bt131.1 bt131.2.1 1 (([(⟨true, 0⟩ : S67), (⟨false, 0⟩ : S67), (⟨false, 0⟩ : S67), (⟨true, 0⟩ : S67)] : List (S67)))).bind fun t142 => (some t142)) else (some false)) else (some false))) else (none)
theorem L2_free.mono : ∀ k, LeO (L2_free.f k ) (L2_free.f (k + 1) ) := by
 intro  k
 unfold L2_free.f
 repeat' first
   | (with_reducible exact L2_isZone.mono _ _ _ _ _)
   | (with_reducible exact LeO.refl _)
   | (with_reducible exact LeO.none _)
   | (with_reducible refine LeO.ite ?_ ?_)
   | (with_reducible refine LeO.bind ?_ (fun _ => ?_))
   | exact L2_isZone.mono _ _ _ _ _
   | exact LeO.none _
   | refine LeO.ite ?_ ?_
   | refine LeO.bind ?_ (fun _ => ?_)
/-! ### R2_Far: function 22 -/
def R2_Far.f (a0 : Int) (a1 : Int) : Option (Bool) := if a0 > a1 then (some true) else (some (decide (a0 < (wrap64 (-a1)))))
set_option maxHeartbeats 8000000 in
set_option maxRecDepth 100000 in
theorem R2_Far.calls [EA] (a0 : Int) (a1 : Int) (r : Bool) (w : World) (h : R2_Far.f a0 a1 = some r) :
  Calls Tryd.prog 22 #[.int .i64 a0, .int .i64 a1] w fun e w' => e = .returned (.bool r) ∧ Drawn0 w w' := by
 have H : (if a0 > a1 then (some true) else (some (decide (a0 < (wrap64 (-a1)))))) = some r := h
 clear h
 by_cases c3 : a0 > a1
 ·rw [if_pos c3] at H
  have c3b0 : decide (a1 < a0) = true := decide_eq_true c3
  clear c3
  obtain rfl := Option.some.inj H
  go_enter Tryd.func22, Tryd.ntmps22
  go_wp2
  go_ret
  exact ⟨by first | rfl | (simp; done) | (simp [*]; done), by repeat (first | exact Drawn0.refl _ | apply Drawn0.step)⟩
 rw [if_neg c3] at H
 have c3b0 : decide (a1 < a0) = false := decide_eq_false c3
 clear c3
 obtain rfl := Option.some.inj H
 go_enter Tryd.func22, Tryd.ntmps22
 go_wp2
 go_ret
 exact ⟨by first | rfl | (simp; done) | (simp [*]; done), by repeat (first | exact Drawn0.refl _ | apply Drawn0.step)⟩

/-! ### R2_cellsError: function 81 -/
mutual
def R2_cellsError.j0 : Nat → List (S67) → Int → Bool → Option (Int)
 | 0, _, _, _ => none
 | k + 1, x1, x2, x15 => if x15 = true then (some 2) else (if (x1.length : Int) = x2 then (R2_cellsError.l0 k x1 false 0) else (some 3))
def R2_cellsError.l0 : Nat → List (S67) → Bool → Int → Option (Int)
 | 0, _, _, _ => none
 | k + 1, x1, x7, x8 => if x8 < (x1.length : Int) then (if 0 ≤ x8 then (if ((rd_T67 x1 x8).f0 = true) then ((R2_Far.f ((rd_T67 x1 x8).f1) 1099511627776).bind fun t145 => (if x7 = true then (R2_cellsError.l0 k x1 true (wrap64 (x8 + 1))) else (R2_cellsError.l0 k x1 t145 (wrap64 (x8 + 1))))) else (if ((rd_T67 x1 x8).f1) = 0 then ((R2_Far.f ((rd_T67 x1 x8).f1) 1099511627776).bind fun t148 => (if x7 = true then (R2_cellsError.l0 k x1 true (wrap64 (x8 + 1))) else (R2_cellsError.l0 k x1 t148 (wrap64 (x8 + 1))))) else (some 3))) else (none)) else (if x7 = true then (some 2) else (some 0))
end
def R2_cellsError.f (k : Nat) (a0 : Int) (l1 : List (S67)) (a2 : Int) : Option (Int) := if a0 < 0 then (R2_cellsError.j0 k l1 a2 true) else (R2_cellsError.j0 k l1 a2 (decide (a0 > 4)))
theorem R2_cellsError.mono_l : ∀ k, (∀ y0 y1 y2, LeO (R2_cellsError.j0 k y0 y1 y2) (R2_cellsError.j0 (k + 1) y0 y1 y2)) ∧ (∀ y0 y1 y2, LeO (R2_cellsError.l0 k y0 y1 y2) (R2_cellsError.l0 (k + 1) y0 y1 y2))
 | 0 => ⟨fun _ _ _ r h => by simp [R2_cellsError.j0] at h, fun _ _ _ r h => by simp [R2_cellsError.l0] at h⟩
 | k + 1 => by
  obtain ⟨ih0, ih1⟩ := R2_cellsError.mono_l k
  refine ⟨?_, ?_⟩
  ·intro y0 y1 y2
   unfold R2_cellsError.j0
   repeat' first
   | (with_reducible exact ih0 _ _ _)
   | (with_reducible exact ih1 _ _ _)
   | (with_reducible exact LeO.refl _)
   | (with_reducible exact LeO.none _)
   | (with_reducible refine LeO.ite ?_ ?_)
   | (with_reducible refine LeO.bind ?_ (fun _ => ?_))
   | exact ih0 _ _ _
   | exact ih1 _ _ _
   | exact LeO.none _
   | refine LeO.ite ?_ ?_
   | refine LeO.bind ?_ (fun _ => ?_)
  intro y0 y1 y2
  unfold R2_cellsError.l0
  repeat' first
  | (with_reducible exact ih0 _ _ _)
  | (with_reducible exact ih1 _ _ _)
  | (with_reducible exact LeO.refl _)
  | (with_reducible exact LeO.none _)
  | (with_reducible refine LeO.ite ?_ ?_)
  | (with_reducible refine LeO.bind ?_ (fun _ => ?_))
  | exact ih0 _ _ _
  | exact ih1 _ _ _
  | exact LeO.none _
  | refine LeO.ite ?_ ?_
  | refine LeO.bind ?_ (fun _ => ?_)
theorem R2_cellsError.mono : ∀ a0 a1 a2 k, LeO (R2_cellsError.f k a0 a1 a2) (R2_cellsError.f (k + 1) a0 a1 a2) := by
 intro a0 a1 a2 k
 obtain ⟨ih0, ih1⟩ := R2_cellsError.mono_l k
 unfold R2_cellsError.f
 repeat' first
   | (with_reducible exact ih0 _ _ _)
   | (with_reducible exact ih1 _ _ _)
   | (with_reducible exact LeO.refl _)
   | (with_reducible exact LeO.none _)
   | (with_reducible refine LeO.ite ?_ ?_)
   | (with_reducible refine LeO.bind ?_ (fun _ => ?_))
   | exact ih0 _ _ _
   | exact ih1 _ _ _
   | exact LeO.none _
   | refine LeO.ite ?_ ?_
   | refine LeO.bind ?_ (fun _ => ?_)
set_option maxHeartbeats 8000000 in
set_option maxRecDepth 100000 in
theorem R2_cellsError.calls [EA] (k : Nat) (a0 : Int) (A1 : Option Addr) (c1 : Nat) (l1 : List (S67)) (a2 : Int) (r : Int) (w : World) (hr1 : Kd.C k67 w A1 l1.length l1) (hc1 : l1.length ≤ c1) (h : R2_cellsError.f k a0 l1 a2 = some r) :
  Calls Tryd.prog 81 #[.int .i64 a0, .slice A1 l1.length c1, .int .i64 a2] w fun e w' => e = .returned (.int .i64 r) ∧ Drawn0 w w' := by
 have HR1 := am hr1
 have HC1 := am hc1
 clear hr1 hc1
 have H : (if a0 < 0 then (R2_cellsError.j0 k l1 a2 true) else (R2_cellsError.j0 k l1 a2 (decide (a0 > 4)))) = some r := h
 clear h
 have HC4 := am H
 clear H
 go_enter Tryd.func81, Tryd.ntmps81
 go_upto_region 1 with (fail)
 go_cut [15] (fun v15 wc => ∃ (kq : Nat) (x15_3 : Bool), v15 = .bool x15_3 ∧ Aside0 (R2_cellsError.j0 kq l1 a2 x15_3 = some r) ∧ Aside0 (kq ≤ k) ∧ Drawn0 w wc)
 case first =>
  have H := HC4.out
  clear HC4
  by_cases c5 : a0 < 0
  ·rw [if_pos c5] at H
   have c5b0 : decide (a0 < 0) = true := decide_eq_true c5; clear c5; (first | rw [c5b0] | (simp only [i64_w, i32_w]; rw [c5b0]) | skip); have H' := am H; clear H; go_wp2; go_meet
   case rel => exact ⟨_, (true), pr, H', ⟨by first | omega | exact Nat.le_refl _⟩, by repeat (first | exact Drawn0.refl _ | apply Drawn0.step)⟩
  rw [if_neg c5] at H
  have c5b0 : decide (a0 < 0) = false := decide_eq_false c5
  clear c5
  (first | rw [c5b0] | (simp only [i64_w, i32_w]; rw [c5b0]) | skip)
  have H' := am H
  clear H
  go_wp2
  go_meet
  case rel => exact ⟨_, (decide (a0 > 4)), pr, H', ⟨by first | omega | exact Nat.le_refl _⟩, by repeat (first | exact Drawn0.refl _ | apply Drawn0.step)⟩
 clear HC4
 (try clear c1)
 (try clear p2)
 (try clear c5)
 (try clear c5b0)
 obtain ⟨kq, x15_3, rfl, HA, HJ3, ⟨mc3, rfl⟩⟩ := hcut
 cases kq with
 | zero => exact absurd HA.out (by simp [R2_cellsError.j0])
 | succ kj3 =>
  have H := HA.out
  clear HA
  simp only [R2_cellsError.j0] at H
  by_cases c6 : x15_3 = true
  ·subst c6
   have H1 : (some 2) = some r := by rw [if_pos rfl] at H; exact H
   clear H; have H := H1; clear H1; obtain rfl := Option.some.inj H; go_wp2; go_ret; exact ⟨by first | rfl | (simp; done) | (simp [*]; done), by repeat (first | exact Drawn0.refl _ | apply Drawn0.step)⟩
  replace c6 := Bool.eq_false_iff.mpr c6
  subst c6
  have H1 : (if (l1.length : Int) = a2 then (R2_cellsError.l0 kj3 l1 false 0) else (some 3)) = some r := by rw [if_neg (show ¬ (false = true) by decide)] at H; exact H
  clear H
  have H := H1
  clear H1
  by_cases c7 : (l1.length : Int) = a2
  ·rw [if_pos c7] at H
   have c7b0 : ((l1.length : Int) == a2) = true := beq_iff_eq.mpr c7; have c7b1 : ((l1.length : Int) != a2) = false := bne_eq_false_iff_eq.mpr c7; clear c7; have H' := am H; clear H; go_wp2; go_loopg [7, 8] kj3 (fun kq v7 v8 w' => ∃ (x7_2 : Bool) (x8_2 : Int), v7 = .bool x7_2 ∧ v8 = .int .i64 x8_2 ∧ Aside0 (R2_cellsError.l0 kq l1 x7_2 x8_2 = some r) ∧ Aside0 (kq ≤ kj3) ∧ Drawn0 w w')
   case atStart => exact ⟨(false), (0), pr, pr, H', ⟨Nat.le_refl _⟩, by repeat (first | exact Drawn0.refl _ | apply Drawn0.step)⟩
   case round =>
    clear H'; (try clear c1); (try clear p2); (try clear c3); (try clear c5); (try clear c5b0); (try clear c6); (try clear c7); (try clear c7b0); (try clear c7b1); (try clear p2); obtain ⟨x7_2, x8_2, rfl, rfl, HA, HK2, ⟨m2, rfl⟩⟩ := hrel; cases gk with
    | zero => exact absurd HA.out (by simp [R2_cellsError.l0])
    | succ k2 =>
     have H := HA.out; clear HA; simp only [R2_cellsError.l0] at H; by_cases c8 : x8_2 < (l1.length : Int)
     ·rw [if_pos c8] at H
      have c8b0 : decide (x8_2 < (l1.length : Int)) = true := decide_eq_true c8; clear c8; by_cases c9 : 0 ≤ x8_2
      ·rw [if_pos c9] at H
       have c9b0 : decide (0 ≤ x8_2) = true := decide_eq_true c9; clear c9; obtain ⟨bq10, hbq10⟩ : ∃ b_ : Bool, b_ = ((rd_T67 l1 x8_2).f0) := ⟨_, rfl⟩
       replace H : (if (bq10 = true) then ((R2_Far.f ((rd_T67 l1 x8_2).f1) 1099511627776).bind fun t145 => (if x7_2 = true then (R2_cellsError.l0 k2 l1 true (wrap64 (x8_2 + 1))) else (R2_cellsError.l0 k2 l1 t145 (wrap64 (x8_2 + 1))))) else (if ((rd_T67 l1 x8_2).f1) = 0 then ((R2_Far.f ((rd_T67 l1 x8_2).f1) 1099511627776).bind fun t148 => (if x7_2 = true then (R2_cellsError.l0 k2 l1 true (wrap64 (x8_2 + 1))) else (R2_cellsError.l0 k2 l1 t148 (wrap64 (x8_2 + 1))))) else (some 3))) = some r := by rw [← hbq10] at H; exact H
       have Nbq10 := am hbq10; clear hbq10; by_cases c11 : (bq10 = true)
       ·subst c11
        have H1 : ((R2_Far.f ((rd_T67 l1 x8_2).f1) 1099511627776).bind fun t145 => (if x7_2 = true then (R2_cellsError.l0 k2 l1 true (wrap64 (x8_2 + 1))) else (R2_cellsError.l0 k2 l1 t145 (wrap64 (x8_2 + 1))))) = some r := by rw [if_pos rfl] at H; exact H
        clear H; have H := H1; clear H1; replace H := Option.bind_eq_some_iff.mp H; obtain ⟨t145, A120, H⟩ := H; replace H : (if x7_2 = true then (R2_cellsError.l0 k2 l1 true (wrap64 (x8_2 + 1))) else (R2_cellsError.l0 k2 l1 t145 (wrap64 (x8_2 + 1)))) = some r := H; have A12 := am A120; clear A120; by_cases c13 : x7_2 = true
        ·subst c13
         have H1 : (R2_cellsError.l0 k2 l1 true (wrap64 (x8_2 + 1))) = some r := by rw [if_pos rfl] at H; exact H
         clear H; have H := H1; clear H1; have H' := am H; clear H; have p143 : 0 ≤ (x8_2 : Int) := od; have q143 : x8_2 < (l1.length : Int) := od; obtain ⟨ad143, e143, hx143_0, hx143_1⟩ := at_T67 HR1.out x8_2 p143 q143; (try rw [← Nbq10.out] at hx143_0); cases e143; replace p143 := eq_true p143; replace q143 := eq_true q143; have p144 : 0 ≤ (x8_2 : Int) := od; have q144 : x8_2 < (l1.length : Int) := od; obtain ⟨ad144, e144, hx144_0, hx144_1⟩ := at_T67 HR1.out x8_2 p144 q144; (try rw [← Nbq10.out] at hx144_0); obtain rfl : ad143 = ad144 := (by injection e144); replace p144 := eq_true p144; replace q144 := eq_true q144; go_wp2_with (first | ((with_reducible refine gate_callee (f := 22) rfl ?_); refine goesL_ (some 45) rfl rfl Tryd.func22 kk rfl #[.int .i64 ((rd_T67 l1 x8_2).f1), .int .i64 1099511627776] rfl (by (try simp only [List.map_toArray, List.map_cons, List.map_nil]); first | done | rfl | (simp only [List.length_drop, List.length_take]; rfl)) ?_; (with_reducible refine (R2_Far.calls ((rd_T67 l1 x8_2).f1) 1099511627776 t145 _ A12.out).mono ?_); rintro e w' ⟨rfl, ⟨nd, rfl⟩⟩; refine ⟨_, rfl, ?_⟩)); go_roundg k2
         case measure => have := HJ3.out; have := HK2.out; omega
         case rel => exact ⟨(true), (wrap64 (x8_2 + 1)), pr, pr, H', ⟨by have := HJ3.out; have := HK2.out; omega⟩, by repeat (first | exact Drawn0.refl _ | apply Drawn0.step)⟩
        replace c13 := Bool.eq_false_iff.mpr c13; subst c13
        have H1 : (R2_cellsError.l0 k2 l1 t145 (wrap64 (x8_2 + 1))) = some r := by rw [if_neg (show ¬ (false = true) by decide)] at H; exact H
        clear H; have H := H1; clear H1; have H' := am H; clear H; have p143 : 0 ≤ (x8_2 : Int) := od; have q143 : x8_2 < (l1.length : Int) := od; obtain ⟨ad143, e143, hx143_0, hx143_1⟩ := at_T67 HR1.out x8_2 p143 q143; (try rw [← Nbq10.out] at hx143_0); cases e143; replace p143 := eq_true p143; replace q143 := eq_true q143; have p144 : 0 ≤ (x8_2 : Int) := od; have q144 : x8_2 < (l1.length : Int) := od; obtain ⟨ad144, e144, hx144_0, hx144_1⟩ := at_T67 HR1.out x8_2 p144 q144; (try rw [← Nbq10.out] at hx144_0); obtain rfl : ad143 = ad144 := (by injection e144); replace p144 := eq_true p144; replace q144 := eq_true q144; go_wp2_with (first | ((with_reducible refine gate_callee (f := 22) rfl ?_); refine goesL_ (some 45) rfl rfl Tryd.func22 kk rfl #[.int .i64 ((rd_T67 l1 x8_2).f1), .int .i64 1099511627776] rfl (by (try simp only [List.map_toArray, List.map_cons, List.map_nil]); first | done | rfl | (simp only [List.length_drop, List.length_take]; rfl)) ?_; (with_reducible refine (R2_Far.calls ((rd_T67 l1 x8_2).f1) 1099511627776 t145 _ A12.out).mono ?_); rintro e w' ⟨rfl, ⟨nd, rfl⟩⟩; refine ⟨_, rfl, ?_⟩)); go_roundg k2
        case measure => have := HJ3.out; have := HK2.out; omega
        case rel => exact ⟨(t145), (wrap64 (x8_2 + 1)), pr, pr, H', ⟨by have := HJ3.out; have := HK2.out; omega⟩, by repeat (first | exact Drawn0.refl _ | apply Drawn0.step)⟩
       replace c11 := Bool.eq_false_iff.mpr c11; subst c11
       have H1 : (if ((rd_T67 l1 x8_2).f1) = 0 then ((R2_Far.f ((rd_T67 l1 x8_2).f1) 1099511627776).bind fun t148 => (if x7_2 = true then (R2_cellsError.l0 k2 l1 true (wrap64 (x8_2 + 1))) else (R2_cellsError.l0 k2 l1 t148 (wrap64 (x8_2 + 1))))) else (some 3)) = some r := by rw [if_neg (show ¬ (false = true) by decide)] at H; exact H
       clear H; have H := H1; clear H1; by_cases c14 : ((rd_T67 l1 x8_2).f1) = 0
       ·rw [if_pos c14] at H
        have c14b0 : (((rd_T67 l1 x8_2).f1) == 0) = true := beq_iff_eq.mpr c14; have c14b1 : (((rd_T67 l1 x8_2).f1) != 0) = false := bne_eq_false_iff_eq.mpr c14; clear c14; replace H := Option.bind_eq_some_iff.mp H; obtain ⟨t148, A150, H⟩ := H; replace H : (if x7_2 = true then (R2_cellsError.l0 k2 l1 true (wrap64 (x8_2 + 1))) else (R2_cellsError.l0 k2 l1 t148 (wrap64 (x8_2 + 1)))) = some r := H; have A15 := am A150; clear A150; by_cases c16 : x7_2 = true
        ·subst c16
         have H1 : (R2_cellsError.l0 k2 l1 true (wrap64 (x8_2 + 1))) = some r := by rw [if_pos rfl] at H; exact H
         clear H; have H := H1; clear H1; have H' := am H; clear H; have p143 : 0 ≤ (x8_2 : Int) := od; have q143 : x8_2 < (l1.length : Int) := od; obtain ⟨ad143, e143, hx143_0, hx143_1⟩ := at_T67 HR1.out x8_2 p143 q143; (try rw [← Nbq10.out] at hx143_0); cases e143; replace p143 := eq_true p143; replace q143 := eq_true q143; have p146 : 0 ≤ (x8_2 : Int) := od; have q146 : x8_2 < (l1.length : Int) := od; obtain ⟨ad146, e146, hx146_0, hx146_1⟩ := at_T67 HR1.out x8_2 p146 q146; (try rw [← Nbq10.out] at hx146_0); obtain rfl : ad143 = ad146 := (by injection e146); replace p146 := eq_true p146; replace q146 := eq_true q146; have p147 : 0 ≤ (x8_2 : Int) := od; have q147 : x8_2 < (l1.length : Int) := od; obtain ⟨ad147, e147, hx147_0, hx147_1⟩ := at_T67 HR1.out x8_2 p147 q147; (try rw [← Nbq10.out] at hx147_0); obtain rfl : ad143 = ad147 := (by injection e147); replace p147 := eq_true p147; replace q147 := eq_true q147; go_wp2_with (first | ((with_reducible refine gate_callee (f := 22) rfl ?_); refine goesL_ (some 45) rfl rfl Tryd.func22 kk rfl #[.int .i64 ((rd_T67 l1 x8_2).f1), .int .i64 1099511627776] rfl (by (try simp only [List.map_toArray, List.map_cons, List.map_nil]); first | done | rfl | (simp only [List.length_drop, List.length_take]; rfl)) ?_; (with_reducible refine (R2_Far.calls ((rd_T67 l1 x8_2).f1) 1099511627776 t148 _ A15.out).mono ?_); rintro e w' ⟨rfl, ⟨nd, rfl⟩⟩; refine ⟨_, rfl, ?_⟩)); go_roundg k2
         case measure => have := HJ3.out; have := HK2.out; omega
         case rel => exact ⟨(true), (wrap64 (x8_2 + 1)), pr, pr, H', ⟨by have := HJ3.out; have := HK2.out; omega⟩, by repeat (first | exact Drawn0.refl _ | apply Drawn0.step)⟩
        replace c16 := Bool.eq_false_iff.mpr c16; subst c16
        have H1 : (R2_cellsError.l0 k2 l1 t148 (wrap64 (x8_2 + 1))) = some r := by rw [if_neg (show ¬ (false = true) by decide)] at H; exact H
        clear H; have H := H1; clear H1; have H' := am H; clear H; have p143 : 0 ≤ (x8_2 : Int) := od; have q143 : x8_2 < (l1.length : Int) := od; obtain ⟨ad143, e143, hx143_0, hx143_1⟩ := at_T67 HR1.out x8_2 p143 q143; (try rw [← Nbq10.out] at hx143_0); cases e143; replace p143 := eq_true p143; replace q143 := eq_true q143; have p146 : 0 ≤ (x8_2 : Int) := od; have q146 : x8_2 < (l1.length : Int) := od; obtain ⟨ad146, e146, hx146_0, hx146_1⟩ := at_T67 HR1.out x8_2 p146 q146; (try rw [← Nbq10.out] at hx146_0); obtain rfl : ad143 = ad146 := (by injection e146); replace p146 := eq_true p146; replace q146 := eq_true q146; have p147 : 0 ≤ (x8_2 : Int) := od; have q147 : x8_2 < (l1.length : Int) := od; obtain ⟨ad147, e147, hx147_0, hx147_1⟩ := at_T67 HR1.out x8_2 p147 q147; (try rw [← Nbq10.out] at hx147_0); obtain rfl : ad143 = ad147 := (by injection e147); replace p147 := eq_true p147; replace q147 := eq_true q147; go_wp2_with (first | ((with_reducible refine gate_callee (f := 22) rfl ?_); refine goesL_ (some 45) rfl rfl Tryd.func22 kk rfl #[.int .i64 ((rd_T67 l1 x8_2).f1), .int .i64 1099511627776] rfl (by (try simp only [List.map_toArray, List.map_cons, List.map_nil]); first | done | rfl | (simp only [List.length_drop, List.length_take]; rfl)) ?_; (with_reducible refine (R2_Far.calls ((rd_T67 l1 x8_2).f1) 1099511627776 t148 _ A15.out).mono ?_); rintro e w' ⟨rfl, ⟨nd, rfl⟩⟩; refine ⟨_, rfl, ?_⟩)); go_roundg k2
        case measure => have := HJ3.out; have := HK2.out; omega
        case rel => exact ⟨(t148), (wrap64 (x8_2 + 1)), pr, pr, H', ⟨by have := HJ3.out; have := HK2.out; omega⟩, by repeat (first | exact Drawn0.refl _ | apply Drawn0.step)⟩
       rw [if_neg c14] at H; have c14b0 : (((rd_T67 l1 x8_2).f1) == 0) = false := beq_eq_false_iff_ne.mpr c14; have c14b1 : (((rd_T67 l1 x8_2).f1) != 0) = true := bne_iff_ne.mpr c14; obtain rfl := Option.some.inj H; have p143 : 0 ≤ (x8_2 : Int) := od; have q143 : x8_2 < (l1.length : Int) := od; obtain ⟨ad143, e143, hx143_0, hx143_1⟩ := at_T67 HR1.out x8_2 p143 q143; (try rw [← Nbq10.out] at hx143_0); cases e143; replace p143 := eq_true p143; replace q143 := eq_true q143; have p146 : 0 ≤ (x8_2 : Int) := od; have q146 : x8_2 < (l1.length : Int) := od; obtain ⟨ad146, e146, hx146_0, hx146_1⟩ := at_T67 HR1.out x8_2 p146 q146; (try rw [← Nbq10.out] at hx146_0); obtain rfl : ad143 = ad146 := (by injection e146); replace p146 := eq_true p146; replace q146 := eq_true q146; go_wp2; go_ret; exact ⟨by first | rfl | (simp; done) | (simp [*]; done), by repeat (first | exact Drawn0.refl _ | apply Drawn0.step)⟩
      rw [if_neg c9] at H; exact absurd H (by simp)
     rw [if_neg c8] at H; have c8b0 : decide (x8_2 < (l1.length : Int)) = false := decide_eq_false c8; clear c8; by_cases c17 : x7_2 = true
     ·subst c17
      have H1 : (some 2) = some r := by rw [if_pos rfl] at H; exact H
      clear H; have H := H1; clear H1; obtain rfl := Option.some.inj H; go_wp2; go_ret; exact ⟨by first | rfl | (simp; done) | (simp [*]; done), by repeat (first | exact Drawn0.refl _ | apply Drawn0.step)⟩
     replace c17 := Bool.eq_false_iff.mpr c17; subst c17
     have H1 : (some 0) = some r := by rw [if_neg (show ¬ (false = true) by decide)] at H; exact H
     clear H; have H := H1; clear H1; obtain rfl := Option.some.inj H; go_wp2; go_ret; exact ⟨by first | rfl | (simp; done) | (simp [*]; done), by repeat (first | exact Drawn0.refl _ | apply Drawn0.step)⟩
  rw [if_neg c7] at H
  have c7b0 : ((l1.length : Int) == a2) = false := beq_eq_false_iff_ne.mpr c7
  have c7b1 : ((l1.length : Int) != a2) = true := bne_iff_ne.mpr c7
  obtain rfl := Option.some.inj H
  go_wp2
  go_ret
  exact ⟨by first | rfl | (simp; done) | (simp [*]; done), by repeat (first | exact Drawn0.refl _ | apply Drawn0.step)⟩

/-! ### R2_ZoneError: function 15 -/
def R2_ZoneError.f (k : Nat) (a0_0 : Int) (l0_1 : List (S67)) : Option (Int) := (R2_cellsError.f k a0_0 l0_1 (wrap64 ((wrap64 (a0_0 + 1)) * (wrap64 (a0_0 + 1))))).bind fun t150 => (some t150)
theorem R2_ZoneError.mono : ∀ a0 a1 k, LeO (R2_ZoneError.f k a0 a1) (R2_ZoneError.f (k + 1) a0 a1) := by
 intro a0 a1 k
 unfold R2_ZoneError.f
 repeat' first
   | (with_reducible exact R2_cellsError.mono _ _ _ _)
   | (with_reducible exact LeO.refl _)
   | (with_reducible exact LeO.none _)
   | (with_reducible refine LeO.ite ?_ ?_)
   | (with_reducible refine LeO.bind ?_ (fun _ => ?_))
   | exact R2_cellsError.mono _ _ _ _
   | exact LeO.none _
   | refine LeO.ite ?_ ?_
   | refine LeO.bind ?_ (fun _ => ?_)
end Go.Proofs.YtcalcnfppnbooaaDoor.Z
