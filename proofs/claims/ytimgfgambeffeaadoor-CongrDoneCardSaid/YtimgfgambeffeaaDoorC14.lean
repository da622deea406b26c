-- Written by wip/xprint.py (the session's program over the kit's print).
import Derived.Test.YtimgfgambeffeaaDoorEb
import Derived.Test.YtimgfgambeffeaaDoorC0
import Derived.Test.YtimgfgambeffeaaDoorC6
import Derived.Test.YtimgfgambeffeaaDoorC7
import Derived.Test.YtimgfgambeffeaaDoorC12
import Derived.Test.YtimgfgambeffeaaDoorC13
namespace Go.Proofs.YtimgfgambeffeaaDoor.C
open Go.RowKit Go.Proofs.YtimgfgambeffeaaDoorW.PrintWords Go.Proofs.YtimgfgambeffeaaDoorW.PrintLast Go.Proofs.YtimgfgambeffeaaDoorW.PrintMore Go.Proofs.Rcg
attribute [local go_sem] max2_int min2_int max_two min_two max_three min_three max_four min_four   -- for this text's walks alone
set_option linter.unusedVariables false
set_option linter.unusedSimpArgs false

/-! ### L2_CongrDone: function 10 -/
mutual
def L2_CongrDone.j0 : Nat → Int → Int → Option Int → Option Int → Option Int → Option Int → Int → Bool → Int → Int → Int → Int → Int → Int → Int → Int → Int → Int → Int → Int → Option (Bool)
 | 0, _, _, _, _, _, _, _, _, _, _, _, _, _, _, _, _, _, _, _, _ => none
 | k + 1, x2, x8, x10, x12, x14, x16, x17, x73, x324000, x324001, x325000, x325001, x335000, x335001, x343000, x343001, x351000, x351001, x357000, x357001 => if x73 = true then (L2_CongrDone.j1 k x2 x8 x10 x12 x14 x16 2 x324000 x324001 x325000 x325001 x335000 x335001 x343000 x343001 x351000 x351001 x357000 x357001) else (L2_CongrDone.j1 k x2 x8 x10 x12 x14 x16 x17 x324000 x324001 x325000 x325001 x335000 x335001 x343000 x343001 x351000 x351001 x357000 x357001)
def L2_CongrDone.j1 : Nat → Int → Int → Option Int → Option Int → Option Int → Option Int → Int → Int → Int → Int → Int → Int → Int → Int → Int → Int → Int → Int → Int → Option (Bool)
 | 0, _, _, _, _, _, _, _, _, _, _, _, _, _, _, _, _, _, _, _ => none
 | k + 1, x2, x8, x10, x12, x14, x16, x17, x324000, x324001, x325000, x325001, x335000, x335001, x343000, x343001, x351000, x351001, x357000, x357001 => if x17 > 0 then ((L2_isCongr.f x357000 x357001 x16 0 0 x17).bind fun t359 => (if t359 = true then (L2_CongrDone.j3 k x8 x10 x12 x14 x324000 x324001 x325000 x325001 x335000 x335001 x343000 x343001 x351000 x351001) else (none))) else ((R2_FirstOf.f k x324000 x324001 3).bind fun t360 => (L2_CongrDone.l0 k x2 x8 x10 x12 x14 x16 ([] : List Int) t360 0 x324000 x324001 x325000 x325001 x335000 x335001 x343000 x343001 x351000 x351001 x357000 x357001))
def L2_CongrDone.j3 : Nat → Int → Option Int → Option Int → Option Int → Int → Int → Int → Int → Int → Int → Int → Int → Int → Int → Option (Bool)
 | 0, _, _, _, _, _, _, _, _, _, _, _, _, _, _ => none
 | k + 1, x8, x10, x12, x14, x324000, x324001, x325000, x325001, x335000, x335001, x343000, x343001, x351000, x351001 => if x8 > 0 then ((L2_isCongr.f x335000 x335001 x10 0 0 x8).bind fun t370 => (if t370 = true then ((L2_isCongr.f x343000 x343001 x12 0 0 x8).bind fun t371 => (if t371 = true then ((L2_isCongr.f x351000 x351001 x14 0 0 x8).bind fun t372 => (some t372)) else (none))) else (none))) else ((R2_FirstOf.f k x324000 x324001 3).bind fun t373 => ((R2_FirstOf.f k x325000 x325001 3).bind fun t376 => (L2_CongrDone.l1 k x10 x12 x14 ([] : List Int) ([] : List Int) ([] : List Int) t373 t376 true 0 x335000 x335001 x343000 x343001 x351000 x351001)))
def L2_CongrDone.l1 : Nat → Option Int → Option Int → Option Int → List Int → List Int → List Int → List Int → List Int → Bool → Int → Int → Int → Int → Int → Int → Int → Option (Bool)
 | 0, _, _, _, _, _, _, _, _, _, _, _, _, _, _, _, _ => none
 | k + 1, x10, x12, x14, x21, x22, x23, x24, x25, x26, x27, x335000, x335001, x343000, x343001, x351000, x351001 => if x27 < (x24.length : Int) then (L2_CongrDone.l2 k x10 x12 x14 x21 x22 x23 x24 x25 x26 x27 0 x335000 x335001 x343000 x343001 x351000 x351001) else ((R2_LeastOf.f k x21).bind fun bt398 => ((L2_isCongr.f x335000 x335001 x10 bt398.1 bt398.2 0).bind fun t400 => (if t400 = true then ((R2_LeastOf.f k x22).bind fun bt401 => ((L2_isCongr.f x343000 x343001 x12 bt401.1 bt401.2 0).bind fun t403 => (L2_CongrDone.j6 k x14 x23 x26 (!t403) x351000 x351001))) else (L2_CongrDone.j6 k x14 x23 x26 true x351000 x351001))))
def L2_CongrDone.l2 : Nat → Option Int → Option Int → Option Int → List Int → List Int → List Int → List Int → List Int → Bool → Int → Int → Int → Int → Int → Int → Int → Int → Option (Bool)
 | 0, _, _, _, _, _, _, _, _, _, _, _, _, _, _, _, _, _ => none
 | k + 1, x10, x12, x14, x21, x22, x23, x24, x25, x26, x27, x28, x335000, x335001, x343000, x343001, x351000, x351001 => if x28 < (x25.length : Int) then (if 0 ≤ x27 then (if x27 < (x24.length : Int) then (if 0 ≤ x28 then (if x21.length < 17592186044416 then ((some (x21 ++ [wrap64 ((rd x24 x27) + (rd x25 x28))] : List Int)).bind fun y381 => (if x22.length < 17592186044416 then ((some (x22 ++ [wrap64 ((rd x24 x27) - (rd x25 x28))] : List Int)).bind fun y386 => (if x26 = true then ((R2_Far.f (rd x24 x27) 1073741824).bind fun t390 => (if t390 = true then (L2_CongrDone.l2 k x10 x12 x14 y381 y386 x23 x24 x25 false x27 (wrap64 (x28 + 1)) x335000 x335001 x343000 x343001 x351000 x351001) else ((R2_Far.f (rd x25 x28) 1073741824).bind fun t392 => (if t392 = true then (L2_CongrDone.l2 k x10 x12 x14 y381 y386 x23 x24 x25 (!t392) x27 (wrap64 (x28 + 1)) x335000 x335001 x343000 x343001 x351000 x351001) else (if x23.length < 17592186044416 then (L2_CongrDone.l2 k x10 x12 x14 y381 y386 (x23 ++ [wrap64 ((rd x24 x27) * (rd x25 x28))]) x24 x25 (!t392) x27 (wrap64 (x28 + 1)) x335000 x335001 x343000 x343001 x351000 x351001) else (none)))))) else (L2_CongrDone.l2 k x10 x12 x14 y381 y386 x23 x24 x25 false x27 (wrap64 (x28 + 1)) x335000 x335001 x343000 x343001 x351000 x351001))) else (none))) else (none)) else (none)) else (none)) else (none)) else (L2_CongrDone.l1 k x10 x12 x14 x21 x22 x23 x24 x25 x26 (wrap64 (x27 + 1)) x335000 x335001 x343000 x343001 x351000 x351001)
def L2_CongrDone.j6 : Nat → Option Int → List Int → Bool → Bool → Int → Int → Option (Bool)
 | 0, _, _, _, _, _, _ => none
 | k + 1, x14, x23, x26, x209, x351000, x351001 => if x209 = true then (none) else (if x26 = true then ((R2_LeastOf.f k x23).bind fun bt404 => ((L2_isCongr.f x351000 x351001 x14 bt404.1 bt404.2 0).bind fun t406 => (some t406))) else (some true))
def L2_CongrDone.l0 : Nat → Int → Int → Option Int → Option Int → Option Int → Option Int → List Int → List Int → Int → Int → Int → Int → Int → Int → Int → Int → Int → Int → Int → Int → Int → Option (Bool)
 | 0, _, _, _, _, _, _, _, _, _, _, _, _, _, _, _, _, _, _, _, _, _ => none
 | k + 1, x2, x8, x10, x12, x14, x16, x18, x19, x20, x324000, x324001, x325000, x325001, x335000, x335001, x343000, x343001, x351000, x351001, x357000, x357001 => if x20 < (x19.length : Int) then (if 0 ≤ x20 then (if x18.length < 17592186044416 then (L2_CongrDone.l0 k x2 x8 x10 x12 x14 x16 (x18 ++ [wrap64 (x2 * (rd x19 x20))]) x19 (wrap64 (x20 + 1)) x324000 x324001 x325000 x325001 x335000 x335001 x343000 x343001 x351000 x351001 x357000 x357001) else (none)) else (none)) else ((R2_LeastOf.f k x18).bind fun bt367 => ((L2_isCongr.f x357000 x357001 x16 bt367.1 bt367.2 0).bind fun t369 => (if t369 = true then (L2_CongrDone.j3 k x8 x10 x12 x14 x324000 x324001 x325000 x325001 x335000 x335001 x343000 x343001 x351000 x351001) else (none))))
end
def L2_CongrDone.f (k : Nat) (a0_0 : Int) (a0_1 : Int) (a1_0 : Int) (a1_1 : Int) (a2 : Int) : Option (Bool) := (L2_sixth.f k).bind fun t325 => (if t325 = true then ((R2_TwoCongrs.f k a0_0 a0_1 a1_0 a1_1).bind fun t326 => ((L2_own.f a0_0 a0_1).bind fun bt327 => ((L2_own.f a1_0 a1_1).bind fun bt329 => ((congr_Add.f k bt327.1 bt327.2 bt329.1 bt329.2).bind fun bt331 => ((L2_own.f a0_0 a0_1).bind fun bt335 => ((L2_own.f a1_0 a1_1).bind fun bt337 => ((congr_Sub.f k bt335.1 bt335.2 bt337.1 bt337.2).bind fun bt339 => ((L2_own.f a0_0 a0_1).bind fun bt343 => ((L2_own.f a1_0 a1_1).bind fun bt345 => ((congr_Mul.f k bt343.1 bt343.2 bt345.1 bt345.2).bind fun bt347 => ((L2_own.f a0_0 a0_1).bind fun bt351 => ((congr_Scale.f k bt351.1 bt351.2 a2).bind fun bt353 => ((R2_CongrError.f k a0_0 a0_1).bind fun t357 => (if t357 = 0 then ((R2_Far.f a2 1048576).bind fun t358 => (L2_CongrDone.j0 k a2 t326 bt331.2.2 bt339.2.2 bt347.2.2 bt353.2.2 t357 t358 a0_0 a0_1 a1_0 a1_1 bt331.1 bt331.2.1 bt339.1 bt339.2.1 bt347.1 bt347.2.1 bt353.1 bt353.2.1)) else (L2_CongrDone.j0 k a2 t326 bt331.2.2 bt339.2.2 bt347.2.2 bt353.2.2 t357 false a0_0 a0_1 a1_0 a1_1 bt331.1 bt331.2.1 bt339.1 bt339.2.1 bt347.1 bt347.2.1 bt353.1 bt353.2.1))))))))))))))) else (none))
theorem L2_CongrDone.mono_l : ∀ k, (∀ y0 y1 y2 y3 y4 y5 y6 y7 y8 y9 y10 y11 y12 y13 y14 y15 y16 y17 y18 y19, LeO (L2_CongrDone.j0 k y0 y1 y2 y3 y4 y5 y6 y7 y8 y9 y10 y11 y12 y13 y14 y15 y16 y17 y18 y19) (L2_CongrDone.j0 (k + 1) y0 y1 y2 y3 y4 y5 y6 y7 y8 y9 y10 y11 y12 y13 y14 y15 y16 y17 y18 y19)) ∧ (∀ y0 y1 y2 y3 y4 y5 y6 y7 y8 y9 y10 y11 y12 y13 y14 y15 y16 y17 y18, LeO (L2_CongrDone.j1 k y0 y1 y2 y3 y4 y5 y6 y7 y8 y9 y10 y11 y12 y13 y14 y15 y16 y17 y18) (L2_CongrDone.j1 (k + 1) y0 y1 y2 y3 y4 y5 y6 y7 y8 y9 y10 y11 y12 y13 y14 y15 y16 y17 y18)) ∧ (∀ y0 y1 y2 y3 y4 y5 y6 y7 y8 y9 y10 y11 y12 y13, LeO (L2_CongrDone.j3 k y0 y1 y2 y3 y4 y5 y6 y7 y8 y9 y10 y11 y12 y13) (L2_CongrDone.j3 (k + 1) y0 y1 y2 y3 y4 y5 y6 y7 y8 y9 y10 y11 y12 y13)) ∧ (∀ y0 y1 y2 y3 y4 y5 y6 y7 y8 y9 y10 y11 y12 y13 y14 y15, LeO (L2_CongrDone.l1 k y0 y1 y2 y3 y4 y5 y6 y7 y8 y9 y10 y11 y12 y13 y14 y15) (L2_CongrDone.l1 (k + 1) y0 y1 y2 y3 y4 y5 y6 y7 y8 y9 y10 y11 y12 y13 y14 y15)) ∧ (∀ y0 y1 y2 y3 y4 y5 y6 y7 y8 y9 y10 y11 y12 y13 y14 y15 y16, LeO (L2_CongrDone.l2 k y0 y1 y2 y3 y4 y5 y6 y7 y8 y9 y10 y11 y12 y13 y14 y15 y16) (L2_CongrDone.l2 (k + 1) y0 y1 y2 y3 y4 y5 y6 y7 y8 y9 y10 y11 y12 y13 y14 y15 y16)) ∧ (∀ y0 y1 y2 y3 y4 y5, LeO (L2_CongrDone.j6 k y0 y1 y2 y3 y4 y5) (L2_CongrDone.j6 (k + 1) y0 y1 y2 y3 y4 y5)) ∧ (∀ y0 y1 y2 y3 y4 y5 y6 y7 y8 y9 y10 y11 y12 y13 y14 y15 y16 y17 y18 y19 y20, LeO (L2_CongrDone.l0 k y0 y1 y2 y3 y4 y5 y6 y7 y8 y9 y10 y11 y12 y13 y14 y15 y16 y17 y18 y19 y20) (L2_CongrDone.l0 (k + 1) y0 y1 y2 y3 y4 y5 y6 y7 y8 y9 y10 y11 y12 y13 y14 y15 y16 y17 y18 y19 y20))
 | 0 => ⟨fun _ _ _ _ _ _ _ _ _ _ _ _ _ _ _ _ _ _ _ _ r h => by simp [L2_CongrDone.j0] at h, fun _ _ _ _ _ _ _ _ _ _ _ _ _ _ _ _ _ _ _ r h => by simp [L2_CongrDone.j1] at h, fun _ _ _ _ _ _ _ _ _ _ _ _ _ _ r h => by simp [L2_CongrDone.j3] at h, fun _ _ _ _ _ _ _ _ _ _ _ _ _ _ _ _ r h => by simp [L2_CongrDone.l1] at h, fun _ _ _ _ _ _ _ _ _ _ _ _ _ _ _ _ _ r h => by simp [L2_CongrDone.l2] at h, fun _ _ _ _ _ _ r h => by simp [L2_CongrDone.j6] at h, fun _ _ _ _ _ _ _ _ _ _ _ _ _ _ _ _ _ _ _ _ _ r h => by simp [L2_CongrDone.l0] at h⟩
 | k + 1 => by
  obtain ⟨ih0, ih1, ih2, ih3, ih4, ih5, ih6⟩ := L2_CongrDone.mono_l k
  refine ⟨?_, ?_, ?_, ?_, ?_, ?_, ?_⟩
  ·intro y0 y1 y2 y3 y4 y5 y6 y7 y8 y9 y10 y11 y12 y13 y14 y15 y16 y17 y18 y19
   unfold L2_CongrDone.j0
   repeat' first
   | (with_reducible exact ih0 _ _ _ _ _ _ _ _ _ _ _ _ _ _ _ _ _ _ _ _)
   | (with_reducible exact ih1 _ _ _ _ _ _ _ _ _ _ _ _ _ _ _ _ _ _ _)
   | (with_reducible exact ih2 _ _ _ _ _ _ _ _ _ _ _ _ _ _)
   | (with_reducible exact ih3 _ _ _ _ _ _ _ _ _ _ _ _ _ _ _ _)
   | (with_reducible exact ih4 _ _ _ _ _ _ _ _ _ _ _ _ _ _ _ _ _)
   | (with_reducible exact ih5 _ _ _ _ _ _)
   | (with_reducible exact ih6 _ _ _ _ _ _ _ _ _ _ _ _ _ _ _ _ _ _ _ _ _)
   | (with_reducible exact L2_sixth.mono _)
   | (with_reducible exact R2_CongrError.mono _ _ _)
   | (with_reducible exact R2_FirstOf.mono _ _ _ _)
   | (with_reducible exact R2_LeastOf.mono _ _)
   | (with_reducible exact R2_TwoCongrs.mono _ _ _ _ _)
   | (with_reducible exact congr_Add.mono _ _ _ _ _)
   | (with_reducible exact congr_Mul.mono _ _ _ _ _)
   | (with_reducible exact congr_Scale.mono _ _ _ _)
   | (with_reducible exact congr_Sub.mono _ _ _ _ _)
   | (with_reducible exact LeO.refl _)
   | (with_reducible exact LeO.none _)
   | (with_reducible refine LeO.ite ?_ ?_)
   | (with_reducible refine LeO.bind ?_ (fun _ => ?_))
   | exact ih0 _ _ _ _ _ _ _ _ _ _ _ _ _ _ _ _ _ _ _ _
   | exact ih1 _ _ _ _ _ _ _ _ _ _ _ _ _ _ _ _ _ _ _
   | exact ih2 _ _ _ _ _ _ _ _ _ _ _ _ _ _
   | exact ih3 _ _ _ _ _ _ _ _ _ _ _ _ _ _ _ _
   | exact ih4 _ _ _ _ _ _ _ _ _ _ _ _ _ _ _ _ _
   | exact ih5 _ _ _ _ _ _
   | exact ih6 _ _ _ _ _ _ _ _ _ _ _ _ _ _ _ _ _ _ _ _ _
   | exact L2_sixth.mono _
   | exact R2_CongrError.mono _ _ _
   | exact R2_FirstOf.mono _ _ _ _
   | exact R2_LeastOf.mono _ _
   | exact R2_TwoCongrs.mono _ _ _ _ _
   | exact congr_Add.mono _ _ _ _ _
   | exact congr_Mul.mono _ _ _ _ _
   | exact congr_Scale.mono _ _ _ _
   | exact congr_Sub.mono _ _ _ _ _
   | exact LeO.none _
   | refine LeO.ite ?_ ?_
   | refine LeO.bind ?_ (fun _ => ?_)
  ·intro y0 y1 y2 y3 y4 y5 y6 y7 y8 y9 y10 y11 y12 y13 y14 y15 y16 y17 y18
   unfold L2_CongrDone.j1
   repeat' first
   | (with_reducible exact ih0 _ _ _ _ _ _ _ _ _ _ _ _ _ _ _ _ _ _ _ _)
   | (with_reducible exact ih1 _ _ _ _ _ _ _ _ _ _ _ _ _ _ _ _ _ _ _)
   | (with_reducible exact ih2 _ _ _ _ _ _ _ _ _ _ _ _ _ _)
   | (with_reducible exact ih3 _ _ _ _ _ _ _ _ _ _ _ _ _ _ _ _)
   | (with_reducible exact ih4 _ _ _ _ _ _ _ _ _ _ _ _ _ _ _ _ _)
   | (with_reducible exact ih5 _ _ _ _ _ _)
   | (with_reducible exact ih6 _ _ _ _ _ _ _ _ _ _ _ _ _ _ _ _ _ _ _ _ _)
   | (with_reducible exact L2_sixth.mono _)
   | (with_reducible exact R2_CongrError.mono _ _ _)
   | (with_reducible exact R2_FirstOf.mono _ _ _ _)
   | (with_reducible exact R2_LeastOf.mono _ _)
   | (with_reducible exact R2_TwoCongrs.mono _ _ _ _ _)
   | (with_reducible exact congr_Add.mono _ _ _ _ _)
   | (with_reducible exact congr_Mul.mono _ _ _ _ _)
   | (with_reducible exact congr_Scale.mono _ _ _ _)
   | (with_reducible exact congr_Sub.mono _ _ _ _ _)
   | (with_reducible exact LeO.refl _)
   | (with_reducible exact LeO.none _)
   | (with_reducible refine LeO.ite ?_ ?_)
   | (with_reducible refine LeO.bind ?_ (fun _ => ?_))
   | exact ih0 _ _ _ _ _ _ _ _ _ _ _ _ _ _ _ _ _ _ _ _
   | exact ih1 _ _ _ _ _ _ _ _ _ _ _ _ _ _ _ _ _ _ _
   | exact ih2 _ _ _ _ _ _ _ _ _ _ _ _ _ _
   | exact ih3 _ _ _ _ _ _ _ _ _ _ _ _ _ _ _ _
   | exact ih4 _ _ _ _ _ _ _ _ _ _ _ _ _ _ _ _ _
   | exact ih5 _ _ _ _ _ _
   | exact ih6 _ _ _ _ _ _ _ _ _ _ _ _ _ _ _ _ _ _ _ _ _
   | exact L2_sixth.mono _
   | exact R2_CongrError.mono _ _ _
   | exact R2_FirstOf.mono _ _ _ _
   | exact R2_LeastOf.mono _ _
   | exact R2_TwoCongrs.mono _ _ _ _ _
   | exact congr_Add.mono _ _ _ _ _
   | exact congr_Mul.mono _ _ _ _ _
   | exact congr_Scale.mono _ _ _ _
   | exact congr_Sub.mono _ _ _ _ _
   | exact LeO.none _
   | refine LeO.ite ?_ ?_
   | refine LeO.bind ?_ (fun _ => ?_)
  ·intro y0 y1 y2 y3 y4 y5 y6 y7 y8 y9 y10 y11 y12 y13
   unfold L2_CongrDone.j3
   repeat' first
   | (with_reducible exact ih0 _ _ _ _ _ _ _ _ _ _ _ _ _ _ _ _ _ _ _ _)
   | (with_reducible exact ih1 _ _ _ _ _ _ _ _ _ _ _ _ _ _ _ _ _ _ _)
   | (with_reducible exact ih2 _ _ _ _ _ _ _ _ _ _ _ _ _ _)
   | (with_reducible exact ih3 _ _ _ _ _ _ _ _ _ _ _ _ _ _ _ _)
   | (with_reducible exact ih4 _ _ _ _ _ _ _ _ _ _ _ _ _ _ _ _ _)
   | (with_reducible exact ih5 _ _ _ _ _ _)
   | (with_reducible exact ih6 _ _ _ _ _ _ _ _ _ _ _ _ _ _ _ _ _ _ _ _ _)
   | (with_reducible exact L2_sixth.mono _)
   | (with_reducible exact R2_CongrError.mono _ _ _)
   | (with_reducible exact R2_FirstOf.mono _ _ _ _)
   | (with_reducible exact R2_LeastOf.mono _ _)
   | (with_reducible exact R2_TwoCongrs.mono _ _ _ _ _)
   | (with_reducible exact congr_Add.mono _ _ _ _ _)
   | (with_reducible exact congr_Mul.mono _ _ _ _ _)
   | (with_reducible exact congr_Scale.mono _ _ _ _)
   | (with_reducible exact congr_Sub.mono _ _ _ _ _)
   | (with_reducible exact LeO.refl _)
   | (with_reducible exact LeO.none _)
   | (with_reducible refine LeO.ite ?_ ?_)
   | (with_reducible refine LeO.bind ?_ (fun _ => ?_))
   | exact ih0 _ _ _ _ _ _ _ _ _ _ _ _ _ _ _ _ _ _ _ _
   | exact ih1 _ _ _ _ _ _ _ _ _ _ _ _ _ _ _ _ _ _ _
   | exact ih2 _ _ _ _ _ _ _ _ _ _ _ _ _ _
   | exact ih3 _ _ _ _ _ _ _ _ _ _ _ _ _ _ _ _
   | exact ih4 _ _ _ _ _ _ _ _ _ _ _ _ _ _ _ _ _
   | exact ih5 _ _ _ _ _ _
   | exact ih6 _ _ _ _ _ _ _ _ _ _ _ _ _ _ _ _ _ _ _ _ _
   | exact L2_sixth.mono _
   | exact R2_CongrError.mono _ _ _
   | exact R2_FirstOf.mono _ _ _ _
   | exact R2_LeastOf.mono _ _
   | exact R2_TwoCongrs.mono _ _ _ _ _
   | exact congr_Add.mono _ _ _ _ _
   | exact congr_Mul.mono _ _ _ _ _
   | exact congr_Scale.mono _ _ _ _
   | exact congr_Sub.mono _ _ _ _ _
   | exact LeO.none _
   | refine LeO.ite ?_ ?_
   | refine LeO.bind ?_ (fun _ => ?_)
  ·intro y0 y1 y2 y3 y4 y5 y6 y7 y8 y9 y10 y11 y12 y13 y14 y15
   unfold L2_CongrDone.l1
   repeat' first
   | (with_reducible exact ih0 _ _ _ _ _ _ _ _ _ _ _ _ _ _ _ _ _ _ _ _)
   | (with_reducible exact ih1 _ _ _ _ _ _ _ _ _ _ _ _ _ _ _ _ _ _ _)
   | (with_reducible exact ih2 _ _ _ _ _ _ _ _ _ _ _ _ _ _)
   | (with_reducible exact ih3 _ _ _ _ _ _ _ _ _ _ _ _ _ _ _ _)
   | (with_reducible exact ih4 _ _ _ _ _ _ _ _ _ _ _ _ _ _ _ _ _)
   | (with_reducible exact ih5 _ _ _ _ _ _)
   | (with_reducible exact ih6 _ _ _ _ _ _ _ _ _ _ _ _ _ _ _ _ _ _ _ _ _)
   | (with_reducible exact L2_sixth.mono _)
   | (with_reducible exact R2_CongrError.mono _ _ _)
   | (with_reducible exact R2_FirstOf.mono _ _ _ _)
   | (with_reducible exact R2_LeastOf.mono _ _)
   | (with_reducible exact R2_TwoCongrs.mono _ _ _ _ _)
   | (with_reducible exact congr_Add.mono _ _ _ _ _)
   | (with_reducible exact congr_Mul.mono _ _ _ _ _)
   | (with_reducible exact congr_Scale.mono _ _ _ _)
   | (with_reducible exact congr_Sub.mono _ _ _ _ _)
   | (with_reducible exact LeO.refl _)
   | (with_reducible exact LeO.none _)
   | (with_reducible refine LeO.ite ?_ ?_)
   | (with_reducible refine LeO.bind ?_ (fun _ => ?_))
   | exact ih0 _ _ _ _ _ _ _ _ _ _ _ _ _ _ _ _ _ _ _ _
   | exact ih1 _ _ _ _ _ _ _ _ _ _ _ _ _ _ _ _ _ _ _
   | exact ih2 _ _ _ _ _ _ _ _ _ _ _ _ _ _
   | exact ih3 _ _ _ _ _ _ _ _ _ _ _ _ _ _ _ _
   | exact ih4 _ _ _ _ _ _ _ _ _ _ _ _ _ _ _ _ _
   | exact ih5 _ _ _ _ _ _
   | exact ih6 _ _ _ _ _ _ _ _ _ _ _ _ _ _ _ _ _ _ _ _ _
   | exact L2_sixth.mono _
   | exact R2_CongrError.mono _ _ _
   | exact R2_FirstOf.mono _ _ _ _
   | exact R2_LeastOf.mono _ _
   | exact R2_TwoCongrs.mono _ _ _ _ _
   | exact congr_Add.mono _ _ _ _ _
   | exact congr_Mul.mono _ _ _ _ _
   | exact congr_Scale.mono _ _ _ _
   | exact congr_Sub.mono _ _ _ _ _
   | exact LeO.none _
   | refine LeO.ite ?_ ?_
   | refine LeO.bind ?_ (fun _ => ?_)
  ·intro y0 y1 y2 y3 y4 y5 y6 y7 y8 y9 y10 y11 y12 y13 y14 y15 y16
   unfold L2_CongrDone.l2
   repeat' first
   | (with_reducible exact ih0 _ _ _ _ _ _ _ _ _ _ _ _ _ _ _ _ _ _ _ _)
   | (with_reducible exact ih1 _ _ _ _ _ _ _ _ _ _ _ _ _ _ _ _ _ _ _)
   | (with_reducible exact ih2 _ _ _ _ _ _ _ _ _ _ _ _ _ _)
   | (with_reducible exact ih3 _ _ _ _ _ _ _ _ _ _ _ _ _ _ _ _)
   | (with_reducible exact ih4 _ _ _ _ _ _ _ _ _ _ _ _ _ _ _ _ _)
   | (with_reducible exact ih5 _ _ _ _ _ _)
   | (with_reducible exact ih6 _ _ _ _ _ _ _ _ _ _ _ _ _ _ _ _ _ _ _ _ _)
   | (with_reducible exact L2_sixth.mono _)
   | (with_reducible exact R2_CongrError.mono _ _ _)
   | (with_reducible exact R2_FirstOf.mono _ _ _ _)
   | (with_reducible exact R2_LeastOf.mono _ _)
   | (with_reducible exact R2_TwoCongrs.mono _ _ _ _ _)
   | (with_reducible exact congr_Add.mono _ _ _ _ _)
   | (with_reducible exact congr_Mul.mono _ _ _ _ _)
   | (with_reducible exact congr_Scale.mono _ _ _ _)
   | (with_reducible exact congr_Sub.mono _ _ _ _ _)
   | (with_reducible exact LeO.refl _)
   | (with_reducible exact LeO.none _)
   | (with_reducible refine LeO.ite ?_ ?_)
   | (with_reducible refine LeO.bind ?_ (fun _ => ?_))
   | exact ih0 _ _ _ _ _ _ _ _ _ _ _ _ _ _ _ _ _ _ _ _
   | exact ih1 _ _ _ _ _ _ _ _ _ _ _ _ _ _ _ _ _ _ _
   | exact ih2 _ _ _ _ _ _ _ _ _ _ _ _ _ _
   | exact ih3 _ _ _ _ _ _ _ _ _ _ _ _ _ _ _ _
   | exact ih4 _ _ _ _ _ _ _ _ _ _ _ _ _ _ _ _ _
   | exact ih5 _ _ _ _ _ _
   | exact ih6 _ _ _ _ _ _ _ _ _ _ _ _ _ _ _ _ _ _ _ _ _
   | exact L2_sixth.mono _
   | exact R2_CongrError.mono _ _ _
   | exact R2_FirstOf.mono _ _ _ _
   | exact R2_LeastOf.mono _ _
   | exact R2_TwoCongrs.mono _ _ _ _ _
   | exact congr_Add.mono _ _ _ _ _
   | exact congr_Mul.mono _ _ _ _ _
   | exact congr_Scale.mono _ _ _ _
   | exact congr_Sub.mono _ _ _ _ _
   | exact LeO.none _
   | refine LeO.ite ?_ ?_
   | refine LeO.bind ?_ (fun _ => ?_)
  ·intro y0 y1 y2 y3 y4 y5
   unfold L2_CongrDone.j6
   repeat' first
   | (with_reducible exact ih0 _ _ _ _ _ _ _ _ _ _ _ _ _ _ _ _ _ _ _ _)
   | (with_reducible exact ih1 _ _ _ _ _ _ _ _ _ _ _ _ _ _ _ _ _ _ _)
   | (with_reducible exact ih2 _ _ _ _ _ _ _ _ _ _ _ _ _ _)
   | (with_reducible exact ih3 _ _ _ _ _ _ _ _ _ _ _ _ _ _ _ _)
   | (with_reducible exact ih4 _ _ _ _ _ _ _ _ _ _ _ _ _ _ _ _ _)
   | (with_reducible exact ih5 _ _ _ _ _ _)
   | (with_reducible exact ih6 _ _ _ _ _ _ _ _ _ _ _ _ _ _ _ _ _ _ _ _ _)
   | (with_reducible exact L2_sixth.mono _)
   | (with_reducible exact R2_CongrError.mono _ _ _)
   | (with_reducible exact R2_FirstOf.mono _ _ _ _)
   | (with_reducible exact R2_LeastOf.mono _ _)
   | (with_reducible exact R2_TwoCongrs.mono _ _ _ _ _)
   | (with_reducible exact congr_Add.mono _ _ _ _ _)
   | (with_reducible exact congr_Mul.mono _ _ _ _ _)
   | (with_reducible exact congr_Scale.mono _ _ _ _)
   | (with_reducible exact congr_Sub.mono _ _ _ _ _)
   | (with_reducible exact LeO.refl _)
   | (with_reducible exact LeO.none _)
   | (with_reducible refine LeO.ite ?_ ?_)
   | (with_reducible refine LeO.bind ?_ (fun _ => ?_))
   | exact ih0 _ _ _ _ _ _ _ _ _ _ _ _ _ _ _ _ _ _ _ _
   | exact ih1 _ _ _ _ _ _ _ _ _ _ _ _ _ _ _ _ _ _ _
   | exact ih2 _ _ _ _ _ _ _ _ _ _ _ _ _ _
   | exact ih3 _ _ _ _ _ _ _ _ _ _ _ _ _ _ _ _
   | exact ih4 _ _ _ _ _ _ _ _ _ _ _ _ _ _ _ _ _
   | exact ih5 _ _ _ _ _ _
   | exact ih6 _ _ _ _ _ _ _ _ _ _ _ _ _ _ _ _ _ _ _ _ _
   | exact L2_sixth.mono _
   | exact R2_CongrError.mono _ _ _
   | exact R2_FirstOf.mono _ _ _ _
   | exact R2_LeastOf.mono _ _
   | exact R2_TwoCongrs.mono _ _ _ _ _
   | exact congr_Add.mono _ _ _ _ _
   | exact congr_Mul.mono _ _ _ _ _
   | exact congr_Scale.mono _ _ _ _
   | exact congr_Sub.mono _ _ _ _ _
   | exact LeO.none _
   | refine LeO.ite ?_ ?_
   | refine LeO.bind ?_ (fun _ => ?_)
  intro y0 y1 y2 y3 y4 y5 y6 y7 y8 y9 y10 y11 y12 y13 y14 y15 y16 y17 y18 y19 y20
  unfold L2_CongrDone.l0
  repeat' first
  | (with_reducible exact ih0 _ _ _ _ _ _ _ _ _ _ _ _ _ _ _ _ _ _ _ _)
  | (with_reducible exact ih1 _ _ _ _ _ _ _ _ _ _ _ _ _ _ _ _ _ _ _)
  | (with_reducible exact ih2 _ _ _ _ _ _ _ _ _ _ _ _ _ _)
  | (with_reducible exact ih3 _ _ _ _ _ _ _ _ _ _ _ _ _ _ _ _)
  | (with_reducible exact ih4 _ _ _ _ _ _ _ _ _ _ _ _ _ _ _ _ _)
  | (with_reducible exact ih5 _ _ _ _ _ _)
  | (with_reducible exact ih6 _ _ _ _ _ _ _ _ _ _ _ _ _ _ _ _ _ _ _ _ _)
  | (with_reducible exact L2_sixth.mono _)
  | (with_reducible exact R2_CongrError.mono _ _ _)
  | (with_reducible exact R2_FirstOf.mono _ _ _ _)
  | (with_reducible exact R2_LeastOf.mono _ _)
  | (with_reducible exact R2_TwoCongrs.mono _ _ _ _ _)
  | (with_reducible exact congr_Add.mono _ _ _ _ _)
  | (with_reducible exact congr_Mul.mono _ _ _ _ _)
  | (with_reducible exact congr_Scale.mono _ _ _ _)
  | (with_reducible exact congr_Sub.mono _ _ _ _ _)
  | (with_reducible exact LeO.refl _)
  | (with_reducible exact LeO.none _)
  | (with_reducible refine LeO.ite ?_ ?_)
  | (with_reducible refine LeO.bind ?_ (fun _ => ?_))
  | exact ih0 _ _ _ _ _ _ _ _ _ _ _ _ _ _ _ _ _ _ _ _
  | exact ih1 _ _ _ _ _ _ _ _ _ _ _ _ _ _ _ _ _ _ _
  | exact ih2 _ _ _ _ _ _ _ _ _ _ _ _ _ _
  | exact ih3 _ _ _ _ _ _ _ _ _ _ _ _ _ _ _ _
  | exact ih4 _ _ _ _ _ _ _ _ _ _ _ _ _ _ _ _ _
  | exact ih5 _ _ _ _ _ _
  | exact ih6 _ _ _ _ _ _ _ _ _ _ _ _ _ _ _ _ _ _ _ _ _
  | exact L2_sixth.mono _
  | exact R2_CongrError.mono _ _ _
  | exact R2_FirstOf.mono _ _ _ _
  | exact R2_LeastOf.mono _ _
  | exact R2_TwoCongrs.mono _ _ _ _ _
  | exact congr_Add.mono _ _ _ _ _
  | exact congr_Mul.mono _ _ _ _ _
  | exact congr_Scale.mono _ _ _ _
  | exact congr_Sub.mono _ _ _ _ _
  | exact LeO.none _
  | refine LeO.ite ?_ ?_
  | refine LeO.bind ?_ (fun _ => ?_)
theorem L2_CongrDone.mono : ∀ a0 a1 a2 a3 a4 k, LeO (L2_CongrDone.f k a0 a1 a2 a3 a4) (L2_CongrDone.f (k + 1) a0 a1 a2 a3 a4) := by
 intro a0 a1 a2 a3 a4 k
 obtain ⟨ih0, ih1, ih2, ih3, ih4, ih5, ih6⟩ := L2_CongrDone.mono_l k
 unfold L2_CongrDone.f
 repeat' first
   | (with_reducible exact ih0 _ _ _ _ _ _ _ _ _ _ _ _ _ _ _ _ _ _ _ _)
   | (with_reducible exact ih1 _ _ _ _ _ _ _ _ _ _ _ _ _ _ _ _ _ _ _)
   | (with_reducible exact ih2 _ _ _ _ _ _ _ _ _ _ _ _ _ _)
   | (with_reducible exact ih3 _ _ _ _ _ _ _ _ _ _ _ _ _ _ _ _)
   | (with_reducible exact ih4 _ _ _ _ _ _ _ _ _ _ _ _ _ _ _ _ _)
   | (with_reducible exact ih5 _ _ _ _ _ _)
   | (with_reducible exact ih6 _ _ _ _ _ _ _ _ _ _ _ _ _ _ _ _ _ _ _ _ _)
   | (with_reducible exact L2_sixth.mono _)
   | (with_reducible exact R2_CongrError.mono _ _ _)
   | (with_reducible exact R2_FirstOf.mono _ _ _ _)
   | (with_reducible exact R2_LeastOf.mono _ _)
   | (with_reducible exact R2_TwoCongrs.mono _ _ _ _ _)
   | (with_reducible exact congr_Add.mono _ _ _ _ _)
   | (with_reducible exact congr_Mul.mono _ _ _ _ _)
   | (with_reducible exact congr_Scale.mono _ _ _ _)
   | (with_reducible exact congr_Sub.mono _ _ _ _ _)
   | (with_reducible exact LeO.refl _)
   | (with_reducible exact LeO.none _)
   | (with_reducible refine LeO.ite ?_ ?_)
   | (with_reducible refine LeO.bind ?_ (fun _ => ?_))
   | exact ih0 _ _ _ _ _ _ _ _ _ _ _ _ _ _ _ _ _ _ _ _
   | exact ih1 _ _ _ _ _ _ _ _ _ _ _ _ _ _ _ _ _ _ _
   | exact ih2 _ _ _ _ _ _ _ _ _ _ _ _ _ _
   | exact ih3 _ _ _ _ _ _ _ _ _ _ _ _ _ _ _ _
   | exact ih4 _ _ _ _ _ _ _ _ _ _ _ _ _ _ _ _ _
   | exact ih5 _ _ _ _ _ _
   | exact ih6 _ _ _ _ _ _ _ _ _ _ _ _ _ _ _ _ _ _ _ _ _
   | exact L2_sixth.mono _
   | exact R2_CongrError.mono _ _ _
   | exact R2_FirstOf.mono _ _ _ _
   | exact R2_LeastOf.mono _ _
   | exact R2_TwoCongrs.mono _ _ _ _ _
   | exact congr_Add.mono _ _ _ _ _
   | exact congr_Mul.mono _ _ _ _ _
   | exact congr_Scale.mono _ _ _ _
   | exact congr_Sub.mono _ _ _ _ _
   | exact LeO.none _
   | refine LeO.ite ?_ ?_
   | refine LeO.bind ?_ (fun _ => ?_)
def L2_CongrDone.T5 : Bool × List (List Nat × List Nat) := (true, [([], []), ([0], [0]), ([], []), ([2, 1], [2]), ([1, 3, 3], [1, 3]), ([4], [4]), ([5], [5]), ([5], [5]), ([], []), ([8, 6, 4, 0, 1, 2, 3, 4, 5, 6, 8], [6, 8]), ([7, 9, 0, 1, 2, 3, 4, 5, 6, 7, 8, 9], [7])])
def L2_CongrDone.B5 : List Nat := [0, 1, 0, 7, 15, 31, 63, 63, 0, 383, 1023]
theorem L2_CongrDone.tab5 : rtab .any (opsOf Tryd.f10 5) = L2_CongrDone.T5 := by kernel_rfl
theorem L2_CongrDone.bits5 : waitsOk L2_CongrDone.T5.2 L2_CongrDone.B5 = true := by kernel_rfl
def L2_CongrDone.T6 : Bool × List (List Nat × List Nat) := (true, [([], []), ([0], [0]), ([], []), ([2, 1], [2]), ([1, 3, 3], [1, 3]), ([4], [4]), ([5], [5]), ([5], [5]), ([], []), ([8, 6, 4, 0, 1, 2, 3, 4, 5, 6, 8], [6, 8]), ([7, 9, 0, 1, 2, 3, 4, 5, 6, 7, 8, 9], [7])])
def L2_CongrDone.B6 : List Nat := [0, 1, 0, 7, 15, 31, 63, 63, 0, 383, 1023]
theorem L2_CongrDone.tab6 : rtab .any (opsOf Tryd.f10 6) = L2_CongrDone.T6 := by kernel_rfl
theorem L2_CongrDone.bits6 : waitsOk L2_CongrDone.T6.2 L2_CongrDone.B6 = true := by kernel_rfl
def L2_CongrDone.T7 : Bool × List (List Nat × List Nat) := (true, [([], []), ([0], [0]), ([], []), ([2, 1], [2]), ([1, 3, 3], [1, 3]), ([4], [4]), ([5], [5]), ([5], [5]), ([], []), ([8, 6, 4, 0, 1, 2, 3, 4, 5, 6, 8], [6, 8]), ([7, 9, 0, 1, 2, 3, 4, 5, 6, 7, 8, 9], [7])])
def L2_CongrDone.B7 : List Nat := [0, 1, 0, 7, 15, 31, 63, 63, 0, 383, 1023]
theorem L2_CongrDone.tab7 : rtab .any (opsOf Tryd.f10 7) = L2_CongrDone.T7 := by kernel_rfl
theorem L2_CongrDone.bits7 : waitsOk L2_CongrDone.T7.2 L2_CongrDone.B7 = true := by kernel_rfl
def L2_CongrDone.T37 : Bool × List (List Nat × List Nat) := (true, [([], []), ([], []), ([], []), ([1, 2], [1, 2]), ([3], [3]), ([], []), ([], []), ([5, 6], [5, 6]), ([7], [7]), ([4, 8], [4, 8]), ([9], [9]), ([0, 10], [0, 10]), ([11, 11, 0, 1, 2, 3, 4, 5, 6, 7, 8, 9, 10, 11], [0, 11])])
def L2_CongrDone.B37 : List Nat := [0, 0, 0, 6, 14, 0, 0, 96, 224, 510, 1022, 2047, 4095]
theorem L2_CongrDone.tab37 : rtab .any (opsOf Tryd.f10 37) = L2_CongrDone.T37 := by kernel_rfl
theorem L2_CongrDone.bits37 : waitsOk L2_CongrDone.T37.2 L2_CongrDone.B37 = true := by kernel_rfl
def L2_CongrDone.T38 : Bool × List (List Nat × List Nat) := (true, [([], []), ([], []), ([], []), ([1, 2], [1, 2]), ([3], [3]), ([], []), ([], []), ([5, 6], [5, 6]), ([7], [7]), ([4, 8], [4, 8]), ([9], [9]), ([0, 10], [0, 10]), ([11, 11, 0, 1, 2, 3, 4, 5, 6, 7, 8, 9, 10, 11], [0, 11])])
def L2_CongrDone.B38 : List Nat := [0, 0, 0, 6, 14, 0, 0, 96, 224, 510, 1022, 2047, 4095]
theorem L2_CongrDone.tab38 : rtab .any (opsOf Tryd.f10 38) = L2_CongrDone.T38 := by kernel_rfl
theorem L2_CongrDone.bits38 : waitsOk L2_CongrDone.T38.2 L2_CongrDone.B38 = true := by kernel_rfl
def L2_CongrDone.T41 : Bool × List (List Nat × List Nat) := (true, [([], []), ([], []), ([], []), ([1, 2], [1, 2]), ([3], [3]), ([], []), ([], []), ([5, 6], [5, 6]), ([7], [7]), ([4, 8], [4, 8]), ([9], [9]), ([0, 10], [0, 10]), ([11, 11, 0, 1, 2, 3, 4, 5, 6, 7, 8, 9, 10, 11], [0, 11])])
def L2_CongrDone.B41 : List Nat := [0, 0, 0, 6, 14, 0, 0, 96, 224, 510, 1022, 2047, 4095]
theorem L2_CongrDone.tab41 : rtab .any (opsOf Tryd.f10 41) = L2_CongrDone.T41 := by kernel_rfl
theorem L2_CongrDone.bits41 : waitsOk L2_CongrDone.T41.2 L2_CongrDone.B41 = true := by kernel_rfl
def L2_CongrDone.T42 : Bool × List (List Nat × List Nat) := (true, [([], []), ([], []), ([], []), ([2], [2]), ([0, 1, 3, 3], [0, 1, 3]), ([4], [4]), ([5, 4], [5]), ([6], [6]), ([6], [6]), ([6], [6]), ([9, 6, 6], [6, 9]), ([7, 8, 10, 10, 6], [6, 7, 8, 10]), ([11, 6], [6, 11]), ([6, 12], [6, 12])])
def L2_CongrDone.B42 : List Nat := [0, 0, 0, 4, 15, 31, 63, 127, 127, 127, 639, 2047, 4095, 8191]
theorem L2_CongrDone.tab42 : rtab .any (opsOf Tryd.f10 42) = L2_CongrDone.T42 := by kernel_rfl
theorem L2_CongrDone.bits42 : waitsOk L2_CongrDone.T42.2 L2_CongrDone.B42 = true := by kernel_rfl
def L2_CongrDone.T44 : Bool × List (List Nat × List Nat) := (true, [([], []), ([0], [0]), ([1], [1]), ([2], [2]), ([2], [2]), ([2], [2]), ([5, 2, 2], [2, 5]), ([3, 4, 6, 6, 2], [2, 3, 4, 6]), ([2, 7], [2, 7]), ([8, 7, 0, 1, 2, 3, 4, 5, 6, 7, 8], [8])])
def L2_CongrDone.B44 : List Nat := [0, 1, 3, 7, 7, 7, 39, 127, 255, 511]
theorem L2_CongrDone.tab44 : rtab .any (opsOf Tryd.f10 44) = L2_CongrDone.T44 := by kernel_rfl
theorem L2_CongrDone.bits44 : waitsOk L2_CongrDone.T44.2 L2_CongrDone.B44 = true := by kernel_rfl

end Go.Proofs.YtimgfgambeffeaaDoor.C
