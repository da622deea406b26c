import Derived.Test.YtcalcnfppnbooaaDoorOxSp
import Derived.Test.YtcalcnfppnbooaaDoorOxEb
import Derived.Test.YtcalcnfppnbooaaDoorOxZ0
import Derived.Test.YtcalcnfppnbooaaDoorOxZ4
-- Written by wip/xprint.py (the session's program over the kit's print).
namespace Go.Proofs.YtcalcnfppnbooaaDoor.Z
open Go.RowKit Go.Proofs.YtcalcnfppnbooaaDoorW.PrintWords Go.Proofs.YtcalcnfppnbooaaDoorW.PrintLast Go.Proofs.YtcalcnfppnbooaaDoorW.PrintMore Go.Proofs.Rcg
attribute [local go_sem] max2_int min2_int max_two min_two max_three min_three max_four min_four   -- for this text's walks alone
set_option linter.unusedVariables false
set_option linter.unusedSimpArgs false

/-! ### L2_zoneOf: function 17 -/
def L2_zoneOf.l0 : Nat → Int → Int → List (S67) → Int → List (S120) → Option (Int × (List (S120)))
 | 0, _, _, _, _, _ => none
 | k + 1, x4, x152000, x152001, x154000, x154001 => if x4 < (x152001.length : Int) then (if 0 ≤ x4 then (if x154001.length < 8796093022208 then (L2_zoneOf.l0 k (wrap64 (x4 + 1)) x152000 x152001 x154000 (x154001 ++ [(⟨(rd_T67 x152001 x4).f0, (rd_T67 x152001 x4).f1⟩ : S120)])) else (none)) else (none)) else (some (x154000, x154001))
def L2_zoneOf.f (k : Nat) (a0_0 : Int) (l0_1 : List (S67)) : Option (Int × (List (S120))) := L2_zoneOf.l0 k 0 a0_0 l0_1 a0_0 ([] : List (S120))
theorem L2_zoneOf.mono_l : ∀ k, (∀ y0 y1 y2 y3 y4, LeO (L2_zoneOf.l0 k y0 y1 y2 y3 y4) (L2_zoneOf.l0 (k + 1) y0 y1 y2 y3 y4))
 | 0 => fun _ _ _ _ _ r h => by simp [L2_zoneOf.l0] at h
 | k + 1 => by
  have ih0 := L2_zoneOf.mono_l k
  intro y0 y1 y2 y3 y4
  unfold L2_zoneOf.l0
  repeat' first
  | (with_reducible exact ih0 _ _ _ _ _)
  | (with_reducible exact LeO.refl _)
  | (with_reducible exact LeO.none _)
  | (with_reducible refine LeO.ite ?_ ?_)
  | (with_reducible refine LeO.bind ?_ (fun _ => ?_))
  | exact ih0 _ _ _ _ _
  | exact LeO.none _
  | refine LeO.ite ?_ ?_
  | refine LeO.bind ?_ (fun _ => ?_)
theorem L2_zoneOf.mono : ∀ a0 a1 k, LeO (L2_zoneOf.f k a0 a1) (L2_zoneOf.f (k + 1) a0 a1) := by
 intro a0 a1 k
 have ih0 := L2_zoneOf.mono_l k
 unfold L2_zoneOf.f
 repeat' first
   | (with_reducible exact ih0 _ _ _ _ _)
   | (with_reducible exact LeO.refl _)
   | (with_reducible exact LeO.none _)
   | (with_reducible refine LeO.ite ?_ ?_)
   | (with_reducible refine LeO.bind ?_ (fun _ => ?_))
   | exact ih0 _ _ _ _ _
   | exact LeO.none _
   | refine LeO.ite ?_ ?_
   | refine LeO.bind ?_ (fun _ => ?_)
def L2_zoneOf.T5 : Bool × List (List Nat × List Nat) := (true, [([], []), ([0], [0]), ([], []), ([2], [2]), ([], []), ([3, 4], [3, 4]), ([5], [5]), ([6], [6]), ([], []), ([8], [8]), ([], []), ([9, 10], [9, 10]), ([11], [11]), ([12], [12]), ([7, 13], [7, 13]), ([14], [14]), ([1, 15], [1, 15]), ([0, 1, 2, 3, 4, 5, 6, 7, 8, 9, 10, 11, 12, 13, 14, 15, 16], []), ([17, 16, 16, 0, 1, 2, 3, 4, 5, 6, 7, 8, 9, 10, 11, 12, 13, 14, 15, 16], [16, 17])])
def L2_zoneOf.B5 : List Nat := [0, 1, 0, 4, 0, 28, 60, 124, 0, 256, 0, 1792, 3840, 7936, 16380, 32764, 65535, 131071, 262143]
theorem L2_zoneOf.tab5 : rtab .any (opsOf Tryd.f17 5) = L2_zoneOf.T5 := by kernel_rfl
theorem L2_zoneOf.bits5 : waitsOk L2_zoneOf.T5.2 L2_zoneOf.B5 = true := by kernel_rfl
/-! ### L2_ints: function 19 -/
def L2_ints.f (l0 : List Int) : Option (List Int) := if ([] : List Int).length + l0.length < 17592186044416 then (some (([] : List Int) ++ l0)) else (none)
/-! ### R2_HasZone: function 23 -/
mutual
def R2_HasZone.l0 : Nat → List Int → Int → Int → List (S67) → Option (Bool)
 | 0, _, _, _, _ => none
 | k + 1, x5, x6, x163000, x163001 => if x6 ≤ x163000 then (R2_HasZone.l1 k x5 x6 0 x163000 x163001) else (some true)
def R2_HasZone.l1 : Nat → List Int → Int → Int → Int → List (S67) → Option (Bool)
 | 0, _, _, _, _, _ => none
 | k + 1, x5, x6, x7, x163000, x163001 => if x7 ≤ x163000 then (if 0 ≤ (wrap64 ((wrap64 (x6 * (wrap64 (x163000 + 1)))) + x7)) then (if (wrap64 ((wrap64 (x6 * (wrap64 (x163000 + 1)))) + x7)) < (x163001.length : Int) then (if (rd_T67 x163001 (wrap64 ((wrap64 (x6 * (wrap64 (x163000 + 1)))) + x7))).f0 = true then (if 0 ≤ x7 then (if x7 < (x5.length : Int) then (if 0 ≤ x6 then (if x6 < (x5.length : Int) then (if (wrap64 ((rd x5 x7) - (rd x5 x6))) > ((rd_T67 x163001 (wrap64 ((wrap64 (x6 * (wrap64 (x163000 + 1)))) + x7))).f1) then (some false) else (R2_HasZone.l1 k x5 x6 (wrap64 (x7 + 1)) x163000 x163001)) else (none)) else (none)) else (none)) else (none)) else (R2_HasZone.l1 k x5 x6 (wrap64 (x7 + 1)) x163000 x163001)) else (none)) else (none)) else (R2_HasZone.l0 k x5 (wrap64 (x6 + 1)) x163000 x163001)
end
def R2_HasZone.f (k : Nat) (a0_0 : Int) (l0_1 : List (S67)) (l1 : List Int) : Option (Bool) := (some (([0] : List Int) : List Int)).bind fun y163 => (if y163.length + l1.length < 17592186044416 then (R2_HasZone.l0 k (y163 ++ l1) 0 a0_0 l0_1) else (none))
theorem R2_HasZone.mono_l : ∀ k, (∀ y0 y1 y2 y3, LeO (R2_HasZone.l0 k y0 y1 y2 y3) (R2_HasZone.l0 (k + 1) y0 y1 y2 y3)) ∧ (∀ y0 y1 y2 y3 y4, LeO (R2_HasZone.l1 k y0 y1 y2 y3 y4) (R2_HasZone.l1 (k + 1) y0 y1 y2 y3 y4))
 | 0 => ⟨fun _ _ _ _ r h => by simp [R2_HasZone.l0] at h, fun _ _ _ _ _ r h => by simp [R2_HasZone.l1] at h⟩
 | k + 1 => by
  obtain ⟨ih0, ih1⟩ := R2_HasZone.mono_l k
  refine ⟨?_, ?_⟩
  ·intro y0 y1 y2 y3
   unfold R2_HasZone.l0
   repeat' first
   | (with_reducible exact ih0 _ _ _ _)
   | (with_reducible exact ih1 _ _ _ _ _)
   | (with_reducible exact LeO.refl _)
   | (with_reducible exact LeO.none _)
   | (with_reducible refine LeO.ite ?_ ?_)
   | (with_reducible refine LeO.bind ?_ (fun _ => ?_))
   | exact ih0 _ _ _ _
   | exact ih1 _ _ _ _ _
   | exact LeO.none _
   | refine LeO.ite ?_ ?_
   | refine LeO.bind ?_ (fun _ => ?_)
  intro y0 y1 y2 y3 y4
  unfold R2_HasZone.l1
  repeat' first
  | (with_reducible exact ih0 _ _ _ _)
  | (with_reducible exact ih1 _ _ _ _ _)
  | (with_reducible exact LeO.refl _)
  | (with_reducible exact LeO.none _)
  | (with_reducible refine LeO.ite ?_ ?_)
  | (with_reducible refine LeO.bind ?_ (fun _ => ?_))
  | exact ih0 _ _ _ _
  | exact ih1 _ _ _ _ _
  | exact LeO.none _
  | refine LeO.ite ?_ ?_
  | refine LeO.bind ?_ (fun _ => ?_)
theorem R2_HasZone.mono : ∀ a0 a1 a2 k, LeO (R2_HasZone.f k a0 a1 a2) (R2_HasZone.f (k + 1) a0 a1 a2) := by
 intro a0 a1 a2 k
 obtain ⟨ih0, ih1⟩ := R2_HasZone.mono_l k
 unfold R2_HasZone.f
 repeat' first
   | (with_reducible exact ih0 _ _ _ _)
   | (with_reducible exact ih1 _ _ _ _ _)
   | (with_reducible exact LeO.refl _)
   | (with_reducible exact LeO.none _)
   | (with_reducible refine LeO.ite ?_ ?_)
   | (with_reducible refine LeO.bind ?_ (fun _ => ?_))
   | exact ih0 _ _ _ _
   | exact ih1 _ _ _ _ _
   | exact LeO.none _
   | refine LeO.ite ?_ ?_
   | refine LeO.bind ?_ (fun _ => ?_)
/-! ### L2_noZone: function 24 -/
def L2_noZone.f (a0_0 : Int) (l0_1 : List (S120)) : Option (Bool) := if a0_0 = 0 then (some ((l0_1.length : Int) == 0)) else (some false)
/-! ### R2_Near: function 89 -/
def R2_Near.l0 : Nat → List (S67) → Int → Int → Option (Bool)
 | 0, _, _, _ => none
 | k + 1, x0, x1, x5 => if x5 < (x0.length : Int) then (if 0 ≤ x5 then ((R2_Far.f ((rd_T67 x0 x5).f1) x1).bind fun t175 => (if t175 = true then (some false) else (R2_Near.l0 k x0 x1 (wrap64 (x5 + 1))))) else (none)) else (some true)
def R2_Near.f (k : Nat) (l0 : List (S67)) (a1 : Int) : Option (Bool) := R2_Near.l0 k l0 a1 0
theorem R2_Near.mono_l : ∀ k, (∀ y0 y1 y2, LeO (R2_Near.l0 k y0 y1 y2) (R2_Near.l0 (k + 1) y0 y1 y2))
 | 0 => fun _ _ _ r h => by simp [R2_Near.l0] at h
 | k + 1 => by
  have ih0 := R2_Near.mono_l k
  intro y0 y1 y2
  unfold R2_Near.l0
  repeat' first
  | (with_reducible exact ih0 _ _ _)
  | (with_reducible exact LeO.refl _)
  | (with_reducible exact LeO.none _)
  | (with_reducible refine LeO.ite ?_ ?_)
  | (with_reducible refine LeO.bind ?_ (fun _ => ?_))
  | exact ih0 _ _ _
  | exact LeO.none _
  | refine LeO.ite ?_ ?_
  | refine LeO.bind ?_ (fun _ => ?_)
theorem R2_Near.mono : ∀ a0 a1 k, LeO (R2_Near.f k a0 a1) (R2_Near.f (k + 1) a0 a1) := by
 intro a0 a1 k
 have ih0 := R2_Near.mono_l k
 unfold R2_Near.f
 repeat' first
   | (with_reducible exact ih0 _ _ _)
   | (with_reducible exact LeO.refl _)
   | (with_reducible exact LeO.none _)
   | (with_reducible refine LeO.ite ?_ ?_)
   | (with_reducible refine LeO.bind ?_ (fun _ => ?_))
   | exact ih0 _ _ _
   | exact LeO.none _
   | refine LeO.ite ?_ ?_
   | refine LeO.bind ?_ (fun _ => ?_)
set_option maxHeartbeats 8000000 in
set_option maxRecDepth 100000 in
theorem R2_Near.calls [EA] (k : Nat) (A0 : Option Addr) (c0 : Nat) (l0 : List (S67)) (a1 : Int) (r : Bool) (w : World) (hr0 : Kd.C k67 w A0 l0.length l0) (hc0 : l0.length ≤ c0) (h : R2_Near.f k l0 a1 = some r) :
  Calls Tryd.prog 89 #[.slice A0 l0.length c0, .int .i64 a1] w fun e w' => e = .returned (.bool r) ∧ Drawn0 w w' := by
 have HR0 := am hr0
 have HC0 := am hc0
 clear hr0 hc0
 have H : (R2_Near.l0 k l0 a1 0) = some r := h
 clear h
 have H' := am H
 clear H
 go_enter Tryd.func89, Tryd.ntmps89
 go_wp2
 go_loopg [5] k (fun kq v5 w' => ∃ (x5_1 : Int), v5 = .int .i64 x5_1 ∧ Aside0 (R2_Near.l0 kq l0 a1 x5_1 = some r) ∧ Aside0 (kq ≤ k) ∧ Drawn0 w w')
 case atStart => exact ⟨(0), pr, H', ⟨Nat.le_refl _⟩, by repeat (first | exact Drawn0.refl _ | apply Drawn0.step)⟩
 case round =>
  clear H'
  (try clear p2)
  obtain ⟨x5_1, rfl, HA, HK1, ⟨m1, rfl⟩⟩ := hrel
  cases gk with
  | zero => exact absurd HA.out (by simp [R2_Near.l0])
  | succ k1 =>
   have H := HA.out; clear HA; simp only [R2_Near.l0] at H; by_cases c3 : x5_1 < (l0.length : Int)
   ·rw [if_pos c3] at H
    have c3b0 : decide (x5_1 < (l0.length : Int)) = true := decide_eq_true c3; clear c3; by_cases c4 : 0 ≤ x5_1
    ·rw [if_pos c4] at H
     have c4b0 : decide (0 ≤ x5_1) = true := decide_eq_true c4; clear c4; replace H := Option.bind_eq_some_iff.mp H; obtain ⟨t175, A50, H⟩ := H; replace H : (if t175 = true then (some false) else (R2_Near.l0 k1 l0 a1 (wrap64 (x5_1 + 1)))) = some r := H; have A5 := am A50; clear A50; by_cases c6 : t175 = true
     ·subst c6
      have H1 : (some false) = some r := by rw [if_pos rfl] at H; exact H
      clear H; have H := H1; clear H1; obtain rfl := Option.some.inj H; have p174 : 0 ≤ (x5_1 : Int) := od; have q174 : x5_1 < (l0.length : Int) := od; obtain ⟨ad174, e174, hx174_0, hx174_1⟩ := at_T67 HR0.out x5_1 p174 q174; cases e174; replace p174 := eq_true p174; replace q174 := eq_true q174; go_wp2_with (first | ((with_reducible refine gate_callee (f := 22) rfl ?_); refine goesL_ (some 19) rfl rfl Tryd.func22 kk rfl #[.int .i64 ((rd_T67 l0 x5_1).f1), .int .i64 a1] rfl (by (try simp only [List.map_toArray, List.map_cons, List.map_nil]); first | done | rfl | (simp only [List.length_drop, List.length_take]; rfl)) ?_; (with_reducible refine (R2_Far.calls ((rd_T67 l0 x5_1).f1) a1 true _ A5.out).mono ?_); rintro e w' ⟨rfl, ⟨nd, rfl⟩⟩; refine ⟨_, rfl, ?_⟩)); go_ret; exact ⟨by first | rfl | (simp; done) | (simp [*]; done), by repeat (first | exact Drawn0.refl _ | apply Drawn0.step)⟩
     replace c6 := Bool.eq_false_iff.mpr c6; subst c6
     have H1 : (R2_Near.l0 k1 l0 a1 (wrap64 (x5_1 + 1))) = some r := by rw [if_neg (show ¬ (false = true) by decide)] at H; exact H
     clear H; have H := H1; clear H1; have H' := am H; clear H; have p174 : 0 ≤ (x5_1 : Int) := od; have q174 : x5_1 < (l0.length : Int) := od; obtain ⟨ad174, e174, hx174_0, hx174_1⟩ := at_T67 HR0.out x5_1 p174 q174; cases e174; replace p174 := eq_true p174; replace q174 := eq_true q174; go_wp2_with (first | ((with_reducible refine gate_callee (f := 22) rfl ?_); refine goesL_ (some 19) rfl rfl Tryd.func22 kk rfl #[.int .i64 ((rd_T67 l0 x5_1).f1), .int .i64 a1] rfl (by (try simp only [List.map_toArray, List.map_cons, List.map_nil]); first | done | rfl | (simp only [List.length_drop, List.length_take]; rfl)) ?_; (with_reducible refine (R2_Far.calls ((rd_T67 l0 x5_1).f1) a1 false _ A5.out).mono ?_); rintro e w' ⟨rfl, ⟨nd, rfl⟩⟩; refine ⟨_, rfl, ?_⟩)); go_roundg k1
     case measure => have := HK1.out; omega
     case rel => exact ⟨(wrap64 (x5_1 + 1)), pr, H', ⟨by have := HK1.out; omega⟩, by repeat (first | exact Drawn0.refl _ | apply Drawn0.step)⟩
    rw [if_neg c4] at H; exact absurd H (by simp)
   rw [if_neg c3] at H; have c3b0 : decide (x5_1 < (l0.length : Int)) = false := decide_eq_false c3; clear c3; obtain rfl := Option.some.inj H; go_wp2; go_ret; exact ⟨by first | rfl | (simp; done) | (simp [*]; done), by repeat (first | exact Drawn0.refl _ | apply Drawn0.step)⟩

/-! ### L2_near: function 25 -/
def L2_near.f (k : Nat) (l0 : List (S67)) : Option (Bool) := if (l0.length : Int) ≤ 100 then ((R2_Near.f k l0 1048576).bind fun t176 => (some t176)) else (some false)
theorem L2_near.mono : ∀ a0 k, LeO (L2_near.f k a0) (L2_near.f (k + 1) a0) := by
 intro a0 k
 unfold L2_near.f
 repeat' first
   | (with_reducible exact R2_Near.mono _ _ _)
   | (with_reducible exact LeO.refl _)
   | (with_reducible exact LeO.none _)
   | (with_reducible refine LeO.ite ?_ ?_)
   | (with_reducible refine LeO.bind ?_ (fun _ => ?_))
   | exact R2_Near.mono _ _ _
   | exact LeO.none _
   | refine LeO.ite ?_ ?_
   | refine LeO.bind ?_ (fun _ => ?_)
set_option maxHeartbeats 8000000 in
set_option maxRecDepth 100000 in
theorem L2_near.calls [EA] (k : Nat) (A0 : Option Addr) (c0 : Nat) (l0 : List (S67)) (r : Bool) (w : World) (hr0 : Kd.C k67 w A0 l0.length l0) (hc0 : l0.length ≤ c0) (h : L2_near.f k l0 = some r) :
  Calls Tryd.prog 25 #[.slice A0 l0.length c0] w fun e w' => e = .returned (.bool r) ∧ Drawn0 w w' := by
 have HR0 := am hr0
 have HC0 := am hc0
 clear hr0 hc0
 have H : (if (l0.length : Int) ≤ 100 then ((R2_Near.f k l0 1048576).bind fun t176 => (some t176)) else (some false)) = some r := h
 clear h
 by_cases c2 : (l0.length : Int) ≤ 100
 ·rw [if_pos c2] at H
  have c2b0 : decide ((l0.length : Int) ≤ 100) = true := decide_eq_true c2
  have c2b1 : decide (l0.length ≤ 100) = true := decide_eq_true (by omega)
  clear c2
  replace H := Option.bind_eq_some_iff.mp H
  obtain ⟨t176, A30, H⟩ := H
  replace H : (some t176) = some r := H
  have A3 := am A30
  clear A30
  obtain rfl := Option.some.inj H
  go_enter Tryd.func25, Tryd.ntmps25
  go_wp2_with (first | (go_at_call 89; (with_reducible refine (R2_Near.calls k _ _ l0 1048576 t176 _ ?side1 ?side2 A3.out).mono ?_); (case side1 => repeat (first | exact HR0.out | (with_reducible refine Kd.C_alloc ?_ _) | (with_reducible refine Kd.C_drewN ?_ _) | (with_reducible refine Kd.C_drew ?_))); (case side2 => exact HC0.out); rintro e w' ⟨rfl, ⟨nd, rfl⟩⟩))
  go_ret
  exact ⟨by first | rfl | (simp; done) | (simp [*]; done), by repeat (first | exact Drawn0.refl _ | apply Drawn0.step)⟩
 rw [if_neg c2] at H
 have c2b0 : decide ((l0.length : Int) ≤ 100) = false := decide_eq_false c2
 have c2b1 : decide (l0.length ≤ 100) = false := decide_eq_false (by omega)
 clear c2
 obtain rfl := Option.some.inj H
 go_enter Tryd.func25, Tryd.ntmps25
 go_wp2
 go_ret
 exact ⟨by first | rfl | (simp; done) | (simp [*]; done), by repeat (first | exact Drawn0.refl _ | apply Drawn0.step)⟩

end Go.Proofs.YtcalcnfppnbooaaDoor.Z
