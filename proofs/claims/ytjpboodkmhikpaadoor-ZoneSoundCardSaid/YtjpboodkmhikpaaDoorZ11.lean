-- Written by wip/xprint.py (the session's program over the kit's print).
import Derived.Test.YtjpboodkmhikpaaDoorEb
import Derived.Test.YtjpboodkmhikpaaDoorZa
import Derived.Test.YtjpboodkmhikpaaDoorZh
import Derived.Test.YtjpboodkmhikpaaDoorZj
import Derived.Test.YtjpboodkmhikpaaDoorZo
import Derived.Test.YtjpboodkmhikpaaDoorZ0
import Derived.Test.YtjpboodkmhikpaaDoorZ4
import Derived.Test.YtjpboodkmhikpaaDoorZ5
import Derived.Test.YtjpboodkmhikpaaDoorZ10
namespace Go.Proofs.YtjpboodkmhikpaaDoor.Z
open Go.RowKit Go.Proofs.YtjpboodkmhikpaaDoorW.PrintWords Go.Proofs.YtjpboodkmhikpaaDoorW.PrintLast Go.Proofs.YtjpboodkmhikpaaDoorW.PrintMore Go.Proofs.Rcg
attribute [local go_sem] max2_int min2_int max_two min_two max_three min_three max_four min_four   -- for this text's walks alone
set_option linter.unusedVariables false
set_option linter.unusedSimpArgs false

/-! ### L2_ZoneSound: function 14 -/
mutual
def L2_ZoneSound.j0 : Nat → List Int → Int → Int → Int → Bool → Bool → Int → List (S112) → Int → List (S112) → Option (Bool)
 | 0, _, _, _, _, _, _, _, _, _, _ => none
 | k + 1, x2, x3, x4, x5, x13, x57, x371000, x371001, x372000, x372001 => if x57 = true then (some x13) else ((L2_zoneOf.f k x371000 x371001).bind fun bt376 => ((L2_ints.f x2).bind fun t380 => ((zone_Has.f bt376.1 bt376.2 t380).bind fun bt383 => (if bt383.2.isNone = true then (if bt383.1 = true then (if x3 < 1 then (L2_ZoneSound.j1 k x2 x3 x4 x5 true x371000 x371001 x372000 x372001) else (if x3 > x371000 then (L2_ZoneSound.j1 k x2 x3 x4 x5 true x371000 x371001 x372000 x372001) else (if x4 < 0 then (L2_ZoneSound.j1 k x2 x3 x4 x5 true x371000 x371001 x372000 x372001) else (L2_ZoneSound.j1 k x2 x3 x4 x5 (decide (x4 > x371000)) x371000 x371001 x372000 x372001)))) else (L2_ZoneSound.j1 k x2 x3 x4 x5 true x371000 x371001 x372000 x372001)) else (L2_ZoneSound.j1 k x2 x3 x4 x5 true x371000 x371001 x372000 x372001)))))
def L2_ZoneSound.j1 : Nat → List Int → Int → Int → Int → Bool → Int → List (S112) → Int → List (S112) → Option (Bool)
 | 0, _, _, _, _, _, _, _, _, _ => none
 | k + 1, x2, x3, x4, x5, x92, x371000, x371001, x372000, x372001 => if x92 = true then (some true) else (L2_ZoneSound.l0 k x2 x3 x4 x5 0 x371000 x371001 x372000 x372001)
def L2_ZoneSound.l0 : Nat → List Int → Int → Int → Int → Int → Int → List (S112) → Int → List (S112) → Option (Bool)
 | 0, _, _, _, _, _, _, _, _, _ => none
 | k + 1, x2, x3, x4, x5, x16, x371000, x371001, x372000, x372001 => if x16 < (x2.length : Int) then (if 0 ≤ x16 then ((R2_Far.f (rd x2 x16) 1048576).bind fun t387 => (if t387 = true then (some true) else (L2_ZoneSound.l0 k x2 x3 x4 x5 (wrap64 (x16 + 1)) x371000 x371001 x372000 x372001))) else (none)) else ((L2_zoneOf.f k x371000 x371001).bind fun bt388 => ((zone_Forget.f bt388.1 bt388.2 x3).bind fun bt392 => (if bt392.2.2.2.isNone = true then (L2_ZoneSound.j3 k x2 x3 x4 x5 (!bt392.2.2.1) x371000 x371001 x372000 x372001 bt392.1 bt392.2.1) else (L2_ZoneSound.j3 k x2 x3 x4 x5 true x371000 x371001 x372000 x372001 bt392.1 bt392.2.1))))
def L2_ZoneSound.j3 : Nat → List Int → Int → Int → Int → Bool → Int → List (S112) → Int → List (S112) → Int → List (S42) → Option (Bool)
 | 0, _, _, _, _, _, _, _, _, _, _, _ => none
 | k + 1, x2, x3, x4, x5, x117, x371000, x371001, x372000, x372001, x399000, x399001 => if x117 = true then (none) else ((L2_ints.f x2).bind fun t400 => (if 0 ≤ (wrap64 (x3 - 1)) then (if (wrap64 (x3 - 1)) < (t400.length : Int) then ((some (t400.set ((wrap64 (x3 - 1)) : Int).toNat x5 : List Int)).bind fun y403 => ((zone_Has.f x399000 x399001 y403).bind fun bt404 => (if bt404.2.isNone = true then (L2_ZoneSound.j4 k x2 x3 x4 x5 y403 (!bt404.1) x371000 x371001 x372000 x372001) else (L2_ZoneSound.j4 k x2 x3 x4 x5 y403 true x371000 x371001 x372000 x372001)))) else (none)) else (none)))
def L2_ZoneSound.j4 : Nat → List Int → Int → Int → Int → List Int → Bool → Int → List (S112) → Int → List (S112) → Option (Bool)
 | 0, _, _, _, _, _, _, _, _, _, _ => none
 | k + 1, x2, x3, x4, x5, x19, x136, x371000, x371001, x372000, x372001 => if x136 = true then (none) else ((L2_zoneOf.f k x371000 x371001).bind fun bt407 => ((zone_Assign.f bt407.1 bt407.2 x3 x4 x5).bind fun bt411 => (if bt411.2.2.2.isNone = true then (L2_ZoneSound.j5 k x2 x3 x4 x5 x19 (!bt411.2.2.1) x371000 x371001 x372000 x372001 bt411.1 bt411.2.1) else (L2_ZoneSound.j5 k x2 x3 x4 x5 x19 true x371000 x371001 x372000 x372001 bt411.1 bt411.2.1))))
def L2_ZoneSound.j5 : Nat → List Int → Int → Int → Int → List Int → Bool → Int → List (S112) → Int → List (S112) → Int → List (S42) → Option (Bool)
 | 0, _, _, _, _, _, _, _, _, _, _, _, _ => none
 | k + 1, x2, x3, x4, x5, x19, x152, x371000, x371001, x372000, x372001, x418000, x418001 => if x152 = true then (none) else (if x4 > 0 then (if 0 ≤ (wrap64 (x4 - 1)) then (if (wrap64 (x4 - 1)) < (x2.length : Int) then (if 0 ≤ (wrap64 (x3 - 1)) then (if (wrap64 (x3 - 1)) < (x19.length : Int) then (L2_ZoneSound.j6 k x2 (x19.set ((wrap64 (x3 - 1)) : Int).toNat (wrap64 ((rd x2 (wrap64 (x4 - 1))) + x5))) x371000 x371001 x372000 x372001 x418000 x418001) else (none)) else (none)) else (none)) else (none)) else (L2_ZoneSound.j6 k x2 x19 x371000 x371001 x372000 x372001 x418000 x418001))
def L2_ZoneSound.j6 : Nat → List Int → List Int → Int → List (S112) → Int → List (S112) → Int → List (S42) → Option (Bool)
 | 0, _, _, _, _, _, _, _, _ => none
 | k + 1, x2, x19, x371000, x371001, x372000, x372001, x418000, x418001 => (zone_Has.f x418000 x418001 x19).bind fun bt421 => (if bt421.2.isNone = true then (L2_ZoneSound.j7 k x2 (!bt421.1) x371000 x371001 x372000 x372001) else (L2_ZoneSound.j7 k x2 true x371000 x371001 x372000 x372001))
def L2_ZoneSound.j7 : Nat → List Int → Bool → Int → List (S112) → Int → List (S112) → Option (Bool)
 | 0, _, _, _, _, _, _ => none
 | k + 1, x2, x177, x371000, x371001, x372000, x372001 => if x177 = true then (none) else ((L2_zoneOf.f k x371000 x371001).bind fun bt424 => ((L2_zoneOf.f k x372000 x372001).bind fun bt428 => ((zone_Join.f bt424.1 bt424.2 bt428.1 bt428.2).bind fun bt432 => (if bt432.2.2.isNone = true then ((L2_ints.f x2).bind fun t439 => ((zone_Has.f bt432.1 bt432.2.1 t439).bind fun bt442 => (if bt442.2.isNone = true then (some bt442.1) else (none)))) else (some true)))))
end
def L2_ZoneSound.f (k : Nat) (a0_0 : Int) (l0_1 : List (S112)) (a1_0 : Int) (l1_1 : List (S112)) (l2 : List Int) (a3 : Int) (a4 : Int) (a5 : Int) : Option (Bool) := (L2_free.f k).bind fun t372 => (if t372 = true then (if (l0_1.length : Int) > 100 then (L2_ZoneSound.j0 k l2 a3 a4 a5 t372 true a0_0 l0_1 a1_0 l1_1) else (if (l1_1.length : Int) > 100 then (L2_ZoneSound.j0 k l2 a3 a4 a5 t372 true a0_0 l0_1 a1_0 l1_1) else (if (l2.length : Int) > 10 then (L2_ZoneSound.j0 k l2 a3 a4 a5 t372 true a0_0 l0_1 a1_0 l1_1) else ((R2_Far.f a5 1048576).bind fun t373 => (if t373 = true then (L2_ZoneSound.j0 k l2 a3 a4 a5 t372 true a0_0 l0_1 a1_0 l1_1) else ((L2_near.f k l0_1).bind fun t374 => (if t374 = true then ((L2_near.f k l1_1).bind fun t375 => (L2_ZoneSound.j0 k l2 a3 a4 a5 t372 (!t375) a0_0 l0_1 a1_0 l1_1)) else (L2_ZoneSound.j0 k l2 a3 a4 a5 t372 true a0_0 l0_1 a1_0 l1_1)))))))) else (L2_ZoneSound.j0 k l2 a3 a4 a5 t372 true a0_0 l0_1 a1_0 l1_1))
theorem L2_ZoneSound.mono_l : ∀ k, (∀ y0 y1 y2 y3 y4 y5 y6 y7 y8 y9, LeO (L2_ZoneSound.j0 k y0 y1 y2 y3 y4 y5 y6 y7 y8 y9) (L2_ZoneSound.j0 (k + 1) y0 y1 y2 y3 y4 y5 y6 y7 y8 y9)) ∧ (∀ y0 y1 y2 y3 y4 y5 y6 y7 y8, LeO (L2_ZoneSound.j1 k y0 y1 y2 y3 y4 y5 y6 y7 y8) (L2_ZoneSound.j1 (k + 1) y0 y1 y2 y3 y4 y5 y6 y7 y8)) ∧ (∀ y0 y1 y2 y3 y4 y5 y6 y7 y8, LeO (L2_ZoneSound.l0 k y0 y1 y2 y3 y4 y5 y6 y7 y8) (L2_ZoneSound.l0 (k + 1) y0 y1 y2 y3 y4 y5 y6 y7 y8)) ∧ (∀ y0 y1 y2 y3 y4 y5 y6 y7 y8 y9 y10, LeO (L2_ZoneSound.j3 k y0 y1 y2 y3 y4 y5 y6 y7 y8 y9 y10) (L2_ZoneSound.j3 (k + 1) y0 y1 y2 y3 y4 y5 y6 y7 y8 y9 y10)) ∧ (∀ y0 y1 y2 y3 y4 y5 y6 y7 y8 y9, LeO (L2_ZoneSound.j4 k y0 y1 y2 y3 y4 y5 y6 y7 y8 y9) (L2_ZoneSound.j4 (k + 1) y0 y1 y2 y3 y4 y5 y6 y7 y8 y9)) ∧ (∀ y0 y1 y2 y3 y4 y5 y6 y7 y8 y9 y10 y11, LeO (L2_ZoneSound.j5 k y0 y1 y2 y3 y4 y5 y6 y7 y8 y9 y10 y11) (L2_ZoneSound.j5 (k + 1) y0 y1 y2 y3 y4 y5 y6 y7 y8 y9 y10 y11)) ∧ (∀ y0 y1 y2 y3 y4 y5 y6 y7, LeO (L2_ZoneSound.j6 k y0 y1 y2 y3 y4 y5 y6 y7) (L2_ZoneSound.j6 (k + 1) y0 y1 y2 y3 y4 y5 y6 y7)) ∧ (∀ y0 y1 y2 y3 y4 y5, LeO (L2_ZoneSound.j7 k y0 y1 y2 y3 y4 y5) (L2_ZoneSound.j7 (k + 1) y0 y1 y2 y3 y4 y5))
 | 0 => ⟨fun _ _ _ _ _ _ _ _ _ _ r h => by simp [L2_ZoneSound.j0] at h, fun _ _ _ _ _ _ _ _ _ r h => by simp [L2_ZoneSound.j1] at h, fun _ _ _ _ _ _ _ _ _ r h => by simp [L2_ZoneSound.l0] at h, fun _ _ _ _ _ _ _ _ _ _ _ r h => by simp [L2_ZoneSound.j3] at h, fun _ _ _ _ _ _ _ _ _ _ r h => by simp [L2_ZoneSound.j4] at h, fun _ _ _ _ _ _ _ _ _ _ _ _ r h => by simp [L2_ZoneSound.j5] at h, fun _ _ _ _ _ _ _ _ r h => by simp [L2_ZoneSound.j6] at h, fun _ _ _ _ _ _ r h => by simp [L2_ZoneSound.j7] at h⟩
 | k + 1 => by
  obtain ⟨ih0, ih1, ih2, ih3, ih4, ih5, ih6, ih7⟩ := L2_ZoneSound.mono_l k
  refine ⟨?_, ?_, ?_, ?_, ?_, ?_, ?_, ?_⟩
  ·intro y0 y1 y2 y3 y4 y5 y6 y7 y8 y9
   unfold L2_ZoneSound.j0
   repeat' first
   | (with_reducible exact ih0 _ _ _ _ _ _ _ _ _ _)
   | (with_reducible exact ih1 _ _ _ _ _ _ _ _ _)
   | (with_reducible exact ih2 _ _ _ _ _ _ _ _ _)
   | (with_reducible exact ih3 _ _ _ _ _ _ _ _ _ _ _)
   | (with_reducible exact ih4 _ _ _ _ _ _ _ _ _ _)
   | (with_reducible exact ih5 _ _ _ _ _ _ _ _ _ _ _ _)
   | (with_reducible exact ih6 _ _ _ _ _ _ _ _)
   | (with_reducible exact ih7 _ _ _ _ _ _)
   | (with_reducible exact L2_free.mono _)
   | (with_reducible exact L2_near.mono _ _)
   | (with_reducible exact L2_zoneOf.mono _ _ _)
   | (with_reducible exact LeO.refl _)
   | (with_reducible exact LeO.none _)
   | (with_reducible refine LeO.ite ?_ ?_)
   | (with_reducible refine LeO.bind ?_ (fun _ => ?_))
   | exact ih0 _ _ _ _ _ _ _ _ _ _
   | exact ih1 _ _ _ _ _ _ _ _ _
   | exact ih2 _ _ _ _ _ _ _ _ _
   | exact ih3 _ _ _ _ _ _ _ _ _ _ _
   | exact ih4 _ _ _ _ _ _ _ _ _ _
   | exact ih5 _ _ _ _ _ _ _ _ _ _ _ _
   | exact ih6 _ _ _ _ _ _ _ _
   | exact ih7 _ _ _ _ _ _
   | exact L2_free.mono _
   | exact L2_near.mono _ _
   | exact L2_zoneOf.mono _ _ _
   | exact LeO.none _
   | refine LeO.ite ?_ ?_
   | refine LeO.bind ?_ (fun _ => ?_)
  ·intro y0 y1 y2 y3 y4 y5 y6 y7 y8
   unfold L2_ZoneSound.j1
   repeat' first
   | (with_reducible exact ih0 _ _ _ _ _ _ _ _ _ _)
   | (with_reducible exact ih1 _ _ _ _ _ _ _ _ _)
   | (with_reducible exact ih2 _ _ _ _ _ _ _ _ _)
   | (with_reducible exact ih3 _ _ _ _ _ _ _ _ _ _ _)
   | (with_reducible exact ih4 _ _ _ _ _ _ _ _ _ _)
   | (with_reducible exact ih5 _ _ _ _ _ _ _ _ _ _ _ _)
   | (with_reducible exact ih6 _ _ _ _ _ _ _ _)
   | (with_reducible exact ih7 _ _ _ _ _ _)
   | (with_reducible exact L2_free.mono _)
   | (with_reducible exact L2_near.mono _ _)
   | (with_reducible exact L2_zoneOf.mono _ _ _)
   | (with_reducible exact LeO.refl _)
   | (with_reducible exact LeO.none _)
   | (with_reducible refine LeO.ite ?_ ?_)
   | (with_reducible refine LeO.bind ?_ (fun _ => ?_))
   | exact ih0 _ _ _ _ _ _ _ _ _ _
   | exact ih1 _ _ _ _ _ _ _ _ _
   | exact ih2 _ _ _ _ _ _ _ _ _
   | exact ih3 _ _ _ _ _ _ _ _ _ _ _
   | exact ih4 _ _ _ _ _ _ _ _ _ _
   | exact ih5 _ _ _ _ _ _ _ _ _ _ _ _
   | exact ih6 _ _ _ _ _ _ _ _
   | exact ih7 _ _ _ _ _ _
   | exact L2_free.mono _
   | exact L2_near.mono _ _
   | exact L2_zoneOf.mono _ _ _
   | exact LeO.none _
   | refine LeO.ite ?_ ?_
   | refine LeO.bind ?_ (fun _ => ?_)
  ·intro y0 y1 y2 y3 y4 y5 y6 y7 y8
   unfold L2_ZoneSound.l0
   repeat' first
   | (with_reducible exact ih0 _ _ _ _ _ _ _ _ _ _)
   | (with_reducible exact ih1 _ _ _ _ _ _ _ _ _)
   | (with_reducible exact ih2 _ _ _ _ _ _ _ _ _)
   | (with_reducible exact ih3 _ _ _ _ _ _ _ _ _ _ _)
   | (with_reducible exact ih4 _ _ _ _ _ _ _ _ _ _)
   | (with_reducible exact ih5 _ _ _ _ _ _ _ _ _ _ _ _)
   | (with_reducible exact ih6 _ _ _ _ _ _ _ _)
   | (with_reducible exact ih7 _ _ _ _ _ _)
   | (with_reducible exact L2_free.mono _)
   | (with_reducible exact L2_near.mono _ _)
   | (with_reducible exact L2_zoneOf.mono _ _ _)
   | (with_reducible exact LeO.refl _)
   | (with_reducible exact LeO.none _)
   | (with_reducible refine LeO.ite ?_ ?_)
   | (with_reducible refine LeO.bind ?_ (fun _ => ?_))
   | exact ih0 _ _ _ _ _ _ _ _ _ _
   | exact ih1 _ _ _ _ _ _ _ _ _
   | exact ih2 _ _ _ _ _ _ _ _ _
   | exact ih3 _ _ _ _ _ _ _ _ _ _ _
   | exact ih4 _ _ _ _ _ _ _ _ _ _
   | exact ih5 _ _ _ _ _ _ _ _ _ _ _ _
   | exact ih6 _ _ _ _ _ _ _ _
   | exact ih7 _ _ _ _ _ _
   | exact L2_free.mono _
   | exact L2_near.mono _ _
   | exact L2_zoneOf.mono _ _ _
   | exact LeO.none _
   | refine LeO.ite ?_ ?_
   | refine LeO.bind ?_ (fun _ => ?_)
  ·intro y0 y1 y2 y3 y4 y5 y6 y7 y8 y9 y10
   unfold L2_ZoneSound.j3
   repeat' first
   | (with_reducible exact ih0 _ _ _ _ _ _ _ _ _ _)
   | (with_reducible exact ih1 _ _ _ _ _ _ _ _ _)
   | (with_reducible exact ih2 _ _ _ _ _ _ _ _ _)
   | (with_reducible exact ih3 _ _ _ _ _ _ _ _ _ _ _)
   | (with_reducible exact ih4 _ _ _ _ _ _ _ _ _ _)
   | (with_reducible exact ih5 _ _ _ _ _ _ _ _ _ _ _ _)
   | (with_reducible exact ih6 _ _ _ _ _ _ _ _)
   | (with_reducible exact ih7 _ _ _ _ _ _)
   | (with_reducible exact L2_free.mono _)
   | (with_reducible exact L2_near.mono _ _)
   | (with_reducible exact L2_zoneOf.mono _ _ _)
   | (with_reducible exact LeO.refl _)
   | (with_reducible exact LeO.none _)
   | (with_reducible refine LeO.ite ?_ ?_)
   | (with_reducible refine LeO.bind ?_ (fun _ => ?_))
   | exact ih0 _ _ _ _ _ _ _ _ _ _
   | exact ih1 _ _ _ _ _ _ _ _ _
   | exact ih2 _ _ _ _ _ _ _ _ _
   | exact ih3 _ _ _ _ _ _ _ _ _ _ _
   | exact ih4 _ _ _ _ _ _ _ _ _ _
   | exact ih5 _ _ _ _ _ _ _ _ _ _ _ _
   | exact ih6 _ _ _ _ _ _ _ _
   | exact ih7 _ _ _ _ _ _
   | exact L2_free.mono _
   | exact L2_near.mono _ _
   | exact L2_zoneOf.mono _ _ _
   | exact LeO.none _
   | refine LeO.ite ?_ ?_
   | refine LeO.bind ?_ (fun _ => ?_)
  ·intro y0 y1 y2 y3 y4 y5 y6 y7 y8 y9
   unfold L2_ZoneSound.j4
   repeat' first
   | (with_reducible exact ih0 _ _ _ _ _ _ _ _ _ _)
   | (with_reducible exact ih1 _ _ _ _ _ _ _ _ _)
   | (with_reducible exact ih2 _ _ _ _ _ _ _ _ _)
   | (with_reducible exact ih3 _ _ _ _ _ _ _ _ _ _ _)
   | (with_reducible exact ih4 _ _ _ _ _ _ _ _ _ _)
   | (with_reducible exact ih5 _ _ _ _ _ _ _ _ _ _ _ _)
   | (with_reducible exact ih6 _ _ _ _ _ _ _ _)
   | (with_reducible exact ih7 _ _ _ _ _ _)
   | (with_reducible exact L2_free.mono _)
   | (with_reducible exact L2_near.mono _ _)
   | (with_reducible exact L2_zoneOf.mono _ _ _)
   | (with_reducible exact LeO.refl _)
   | (with_reducible exact LeO.none _)
   | (with_reducible refine LeO.ite ?_ ?_)
   | (with_reducible refine LeO.bind ?_ (fun _ => ?_))
   | exact ih0 _ _ _ _ _ _ _ _ _ _
   | exact ih1 _ _ _ _ _ _ _ _ _
   | exact ih2 _ _ _ _ _ _ _ _ _
   | exact ih3 _ _ _ _ _ _ _ _ _ _ _
   | exact ih4 _ _ _ _ _ _ _ _ _ _
   | exact ih5 _ _ _ _ _ _ _ _ _ _ _ _
   | exact ih6 _ _ _ _ _ _ _ _
   | exact ih7 _ _ _ _ _ _
   | exact L2_free.mono _
   | exact L2_near.mono _ _
   | exact L2_zoneOf.mono _ _ _
   | exact LeO.none _
   | refine LeO.ite ?_ ?_
   | refine LeO.bind ?_ (fun _ => ?_)
  ·intro y0 y1 y2 y3 y4 y5 y6 y7 y8 y9 y10 y11
   unfold L2_ZoneSound.j5
   repeat' first
   | (with_reducible exact ih0 _ _ _ _ _ _ _ _ _ _)
   | (with_reducible exact ih1 _ _ _ _ _ _ _ _ _)
   | (with_reducible exact ih2 _ _ _ _ _ _ _ _ _)
   | (with_reducible exact ih3 _ _ _ _ _ _ _ _ _ _ _)
   | (with_reducible exact ih4 _ _ _ _ _ _ _ _ _ _)
   | (with_reducible exact ih5 _ _ _ _ _ _ _ _ _ _ _ _)
   | (with_reducible exact ih6 _ _ _ _ _ _ _ _)
   | (with_reducible exact ih7 _ _ _ _ _ _)
   | (with_reducible exact L2_free.mono _)
   | (with_reducible exact L2_near.mono _ _)
   | (with_reducible exact L2_zoneOf.mono _ _ _)
   | (with_reducible exact LeO.refl _)
   | (with_reducible exact LeO.none _)
   | (with_reducible refine LeO.ite ?_ ?_)
   | (with_reducible refine LeO.bind ?_ (fun _ => ?_))
   | exact ih0 _ _ _ _ _ _ _ _ _ _
   | exact ih1 _ _ _ _ _ _ _ _ _
   | exact ih2 _ _ _ _ _ _ _ _ _
   | exact ih3 _ _ _ _ _ _ _ _ _ _ _
   | exact ih4 _ _ _ _ _ _ _ _ _ _
   | exact ih5 _ _ _ _ _ _ _ _ _ _ _ _
   | exact ih6 _ _ _ _ _ _ _ _
   | exact ih7 _ _ _ _ _ _
   | exact L2_free.mono _
   | exact L2_near.mono _ _
   | exact L2_zoneOf.mono _ _ _
   | exact LeO.none _
   | refine LeO.ite ?_ ?_
   | refine LeO.bind ?_ (fun _ => ?_)
  ·intro y0 y1 y2 y3 y4 y5 y6 y7
   unfold L2_ZoneSound.j6
   repeat' first
   | (with_reducible exact ih0 _ _ _ _ _ _ _ _ _ _)
   | (with_reducible exact ih1 _ _ _ _ _ _ _ _ _)
   | (with_reducible exact ih2 _ _ _ _ _ _ _ _ _)
   | (with_reducible exact ih3 _ _ _ _ _ _ _ _ _ _ _)
   | (with_reducible exact ih4 _ _ _ _ _ _ _ _ _ _)
   | (with_reducible exact ih5 _ _ _ _ _ _ _ _ _ _ _ _)
   | (with_reducible exact ih6 _ _ _ _ _ _ _ _)
   | (with_reducible exact ih7 _ _ _ _ _ _)
   | (with_reducible exact L2_free.mono _)
   | (with_reducible exact L2_near.mono _ _)
   | (with_reducible exact L2_zoneOf.mono _ _ _)
   | (with_reducible exact LeO.refl _)
   | (with_reducible exact LeO.none _)
   | (with_reducible refine LeO.ite ?_ ?_)
   | (with_reducible refine LeO.bind ?_ (fun _ => ?_))
   | exact ih0 _ _ _ _ _ _ _ _ _ _
   | exact ih1 _ _ _ _ _ _ _ _ _
   | exact ih2 _ _ _ _ _ _ _ _ _
   | exact ih3 _ _ _ _ _ _ _ _ _ _ _
   | exact ih4 _ _ _ _ _ _ _ _ _ _
   | exact ih5 _ _ _ _ _ _ _ _ _ _ _ _
   | exact ih6 _ _ _ _ _ _ _ _
   | exact ih7 _ _ _ _ _ _
   | exact L2_free.mono _
   | exact L2_near.mono _ _
   | exact L2_zoneOf.mono _ _ _
   | exact LeO.none _
   | refine LeO.ite ?_ ?_
   | refine LeO.bind ?_ (fun _ => ?_)
  intro y0 y1 y2 y3 y4 y5
  unfold L2_ZoneSound.j7
  repeat' first
  | (with_reducible exact ih0 _ _ _ _ _ _ _ _ _ _)
  | (with_reducible exact ih1 _ _ _ _ _ _ _ _ _)
  | (with_reducible exact ih2 _ _ _ _ _ _ _ _ _)
  | (with_reducible exact ih3 _ _ _ _ _ _ _ _ _ _ _)
  | (with_reducible exact ih4 _ _ _ _ _ _ _ _ _ _)
  | (with_reducible exact ih5 _ _ _ _ _ _ _ _ _ _ _ _)
  | (with_reducible exact ih6 _ _ _ _ _ _ _ _)
  | (with_reducible exact ih7 _ _ _ _ _ _)
  | (with_reducible exact L2_free.mono _)
  | (with_reducible exact L2_near.mono _ _)
  | (with_reducible exact L2_zoneOf.mono _ _ _)
  | (with_reducible exact LeO.refl _)
  | (with_reducible exact LeO.none _)
  | (with_reducible refine LeO.ite ?_ ?_)
  | (with_reducible refine LeO.bind ?_ (fun _ => ?_))
  | exact ih0 _ _ _ _ _ _ _ _ _ _
  | exact ih1 _ _ _ _ _ _ _ _ _
  | exact ih2 _ _ _ _ _ _ _ _ _
  | exact ih3 _ _ _ _ _ _ _ _ _ _ _
  | exact ih4 _ _ _ _ _ _ _ _ _ _
  | exact ih5 _ _ _ _ _ _ _ _ _ _ _ _
  | exact ih6 _ _ _ _ _ _ _ _
  | exact ih7 _ _ _ _ _ _
  | exact L2_free.mono _
  | exact L2_near.mono _ _
  | exact L2_zoneOf.mono _ _ _
  | exact LeO.none _
  | refine LeO.ite ?_ ?_
  | refine LeO.bind ?_ (fun _ => ?_)
theorem L2_ZoneSound.mono : ∀ a0 a1 a2 a3 a4 a5 a6 a7 k, LeO (L2_ZoneSound.f k a0 a1 a2 a3 a4 a5 a6 a7) (L2_ZoneSound.f (k + 1) a0 a1 a2 a3 a4 a5 a6 a7) := by
 intro a0 a1 a2 a3 a4 a5 a6 a7 k
 obtain ⟨ih0, ih1, ih2, ih3, ih4, ih5, ih6, ih7⟩ := L2_ZoneSound.mono_l k
 unfold L2_ZoneSound.f
 repeat' first
   | (with_reducible exact ih0 _ _ _ _ _ _ _ _ _ _)
   | (with_reducible exact ih1 _ _ _ _ _ _ _ _ _)
   | (with_reducible exact ih2 _ _ _ _ _ _ _ _ _)
   | (with_reducible exact ih3 _ _ _ _ _ _ _ _ _ _ _)
   | (with_reducible exact ih4 _ _ _ _ _ _ _ _ _ _)
   | (with_reducible exact ih5 _ _ _ _ _ _ _ _ _ _ _ _)
   | (with_reducible exact ih6 _ _ _ _ _ _ _ _)
   | (with_reducible exact ih7 _ _ _ _ _ _)
   | (with_reducible exact L2_free.mono _)
   | (with_reducible exact L2_near.mono _ _)
   | (with_reducible exact L2_zoneOf.mono _ _ _)
   | (with_reducible exact LeO.refl _)
   | (with_reducible exact LeO.none _)
   | (with_reducible refine LeO.ite ?_ ?_)
   | (with_reducible refine LeO.bind ?_ (fun _ => ?_))
   | exact ih0 _ _ _ _ _ _ _ _ _ _
   | exact ih1 _ _ _ _ _ _ _ _ _
   | exact ih2 _ _ _ _ _ _ _ _ _
   | exact ih3 _ _ _ _ _ _ _ _ _ _ _
   | exact ih4 _ _ _ _ _ _ _ _ _ _
   | exact ih5 _ _ _ _ _ _ _ _ _ _ _ _
   | exact ih6 _ _ _ _ _ _ _ _
   | exact ih7 _ _ _ _ _ _
   | exact L2_free.mono _
   | exact L2_near.mono _ _
   | exact L2_zoneOf.mono _ _ _
   | exact LeO.none _
   | refine LeO.ite ?_ ?_
   | refine LeO.bind ?_ (fun _ => ?_)
def L2_ZoneSound.T28 : Bool × List (List Nat × List Nat) := (true, [([], []), ([0], [0]), ([], []), ([2, 1], [2]), ([1, 3, 3], [1, 3]), ([4], [4]), ([5], [5]), ([5], [5]), ([], []), ([8, 6, 4, 0, 1, 2, 3, 4, 5, 6, 8], [6, 8]), ([7, 9, 0, 1, 2, 3, 4, 5, 6, 7, 8, 9], [7])])
def L2_ZoneSound.B28 : List Nat := [0, 1, 0, 7, 15, 31, 63, 63, 0, 383, 1023]
theorem L2_ZoneSound.tab28 : rtab .any (opsOf Tryd.f14 28) = L2_ZoneSound.T28 := by kernel_rfl
theorem L2_ZoneSound.bits28 : waitsOk L2_ZoneSound.T28.2 L2_ZoneSound.B28 = true := by kernel_rfl
def L2_ZoneSound.T31 : Bool × List (List Nat × List Nat) := (true, [([], []), ([], []), ([1], [1]), ([0, 2, 2], [0, 2]), ([3], [3]), ([4], [4]), ([4], [4]), ([5, 3, 0, 1, 2, 3, 4, 5], [5]), ([6, 7, 0, 1, 2, 3, 4, 5, 6, 7], [6])])
def L2_ZoneSound.B31 : List Nat := [0, 0, 2, 7, 15, 31, 31, 63, 255]
theorem L2_ZoneSound.tab31 : rtab .any (opsOf Tryd.f14 31) = L2_ZoneSound.T31 := by kernel_rfl
theorem L2_ZoneSound.bits31 : waitsOk L2_ZoneSound.T31.2 L2_ZoneSound.B31 = true := by kernel_rfl

end Go.Proofs.YtjpboodkmhikpaaDoor.Z
