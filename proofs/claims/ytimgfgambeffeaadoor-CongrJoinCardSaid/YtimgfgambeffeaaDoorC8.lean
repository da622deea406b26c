-- Written by wip/xprint.py (the session's program over the kit's print).
import Derived.Test.YtimgfgambeffeaaDoorEb
import Derived.Test.YtimgfgambeffeaaDoorC0
import Derived.Test.YtimgfgambeffeaaDoorC6
import Derived.Test.YtimgfgambeffeaaDoorC7
namespace Go.Proofs.YtimgfgambeffeaaDoor.C
open Go.RowKit Go.Proofs.YtimgfgambeffeaaDoorW.PrintWords Go.Proofs.YtimgfgambeffeaaDoorW.PrintLast Go.Proofs.YtimgfgambeffeaaDoorW.PrintMore Go.Proofs.Rcg
attribute [local go_sem] max2_int min2_int max_two min_two max_three min_three max_four min_four   -- for this text's walks alone
set_option linter.unusedVariables false
set_option linter.unusedSimpArgs false

/-! ### L2_CongrJoin: function 5 -/
def L2_CongrJoin.f (k : Nat) (a0_0 : Int) (a0_1 : Int) (a1_0 : Int) (a1_1 : Int) : Option (Bool) := (L2_sixth.f k).bind fun t184 => (if t184 = true then ((R2_TwoCongrs.f k a0_0 a0_1 a1_0 a1_1).bind fun t185 => ((L2_own.f a0_0 a0_1).bind fun bt186 => ((L2_own.f a1_0 a1_1).bind fun bt188 => ((congr_Join.f k bt186.1 bt186.2 bt188.1 bt188.2).bind fun bt190 => (if t185 > 0 then ((L2_isCongr.f bt190.1 bt190.2.1 bt190.2.2 0 0 t185).bind fun t194 => (some t194)) else ((R2_FirstOf.f k a0_0 a0_1 3).bind fun t195 => ((R2_FirstOf.f k a1_0 a1_1 3).bind fun t198 => (if t195.length + t198.length < 17592186044416 then ((R2_LeastOf.f k (t195 ++ t198)).bind fun bt204 => ((L2_isCongr.f bt190.1 bt190.2.1 bt190.2.2 bt204.1 bt204.2 0).bind fun t206 => (some t206))) else (none))))))))) else (none))
theorem L2_CongrJoin.mono : ∀ a0 a1 a2 a3 k, LeO (L2_CongrJoin.f k a0 a1 a2 a3) (L2_CongrJoin.f (k + 1) a0 a1 a2 a3) := by
 intro a0 a1 a2 a3 k
 unfold L2_CongrJoin.f
 repeat' first
   | (with_reducible exact L2_sixth.mono _)
   | (with_reducible exact R2_FirstOf.mono _ _ _ _)
   | (with_reducible exact R2_LeastOf.mono _ _)
   | (with_reducible exact R2_TwoCongrs.mono _ _ _ _ _)
   | (with_reducible exact congr_Join.mono _ _ _ _ _)
   | (with_reducible exact LeO.refl _)
   | (with_reducible exact LeO.none _)
   | (with_reducible refine LeO.ite ?_ ?_)
   | (with_reducible refine LeO.bind ?_ (fun _ => ?_))
   | exact L2_sixth.mono _
   | exact R2_FirstOf.mono _ _ _ _
   | exact R2_LeastOf.mono _ _
   | exact R2_TwoCongrs.mono _ _ _ _ _
   | exact congr_Join.mono _ _ _ _ _
   | exact LeO.none _
   | refine LeO.ite ?_ ?_
   | refine LeO.bind ?_ (fun _ => ?_)
def L2_CongrJoin.T5 : Bool × List (List Nat × List Nat) := (true, [([], []), ([0], [0]), ([], []), ([2, 1], [2]), ([1, 3, 3], [1, 3]), ([4], [4]), ([5], [5]), ([5], [5]), ([], []), ([8, 6, 4, 0, 1, 2, 3, 4, 5, 6, 8], [6, 8]), ([7, 9, 0, 1, 2, 3, 4, 5, 6, 7, 8, 9], [7])])
def L2_CongrJoin.B5 : List Nat := [0, 1, 0, 7, 15, 31, 63, 63, 0, 383, 1023]
theorem L2_CongrJoin.tab5 : rtab .any (opsOf Tryd.f5 5) = L2_CongrJoin.T5 := by kernel_rfl
theorem L2_CongrJoin.bits5 : waitsOk L2_CongrJoin.T5.2 L2_CongrJoin.B5 = true := by kernel_rfl
set_option maxHeartbeats 8000000 in
set_option maxRecDepth 100000 in
theorem L2_CongrJoin.calls [EA] (k : Nat) (a0_0 : Int) (a0_1 : Int) (a1_0 : Int) (a1_1 : Int) (r : Bool) (w : World) (h : L2_CongrJoin.f k a0_0 a0_1 a1_0 a1_1 = some r) (h2_ : ErrAt 2 1 w) (h3_ : ErrAt 3 0 w) (h9_ : ErrAll w) :
  Calls Tryd.prog 5 #[.agg #[.int .i64 a0_0, .int .i64 a0_1], .agg #[.int .i64 a1_0, .int .i64 a1_1]] w fun e w' => e = .returned (.bool r) ∧ Below w.heap.size w w' := by
 have hE2 := am h2_
 clear h2_
 have hE3 := am h3_
 clear h3_
 have hE9 := am h9_
 clear h9_
 have hu32 := Tryd.underlying32
 have hu34 := Tryd.underlying34
 have HB := am (Below.refl w.heap.size w)
 have H : ((L2_sixth.f k).bind fun t184 => (if t184 = true then ((R2_TwoCongrs.f k a0_0 a0_1 a1_0 a1_1).bind fun t185 => ((L2_own.f a0_0 a0_1).bind fun bt186 => ((L2_own.f a1_0 a1_1).bind fun bt188 => ((congr_Join.f k bt186.1 bt186.2 bt188.1 bt188.2).bind fun bt190 => (if t185 > 0 then ((L2_isCongr.f bt190.1 bt190.2.1 bt190.2.2 0 0 t185).bind fun t194 => (some t194)) else ((R2_FirstOf.f k a0_0 a0_1 3).bind fun t195 => ((R2_FirstOf.f k a1_0 a1_1 3).bind fun t198 => (if t195.length + t198.length < 17592186044416 then ((R2_LeastOf.f k (t195 ++ t198)).bind fun bt204 => ((L2_isCongr.f bt190.1 bt190.2.1 bt190.2.2 bt204.1 bt204.2 0).bind fun t206 => (some t206))) else (none))))))))) else (none))) = some r := h
 clear h
 replace H := Option.bind_eq_some_iff.mp H
 obtain ⟨t184, A30, H⟩ := H
 replace H : (if t184 = true then ((R2_TwoCongrs.f k a0_0 a0_1 a1_0 a1_1).bind fun t185 => ((L2_own.f a0_0 a0_1).bind fun bt186 => ((L2_own.f a1_0 a1_1).bind fun bt188 => ((congr_Join.f k bt186.1 bt186.2 bt188.1 bt188.2).bind fun bt190 => (if t185 > 0 then ((L2_isCongr.f bt190.1 bt190.2.1 bt190.2.2 0 0 t185).bind fun t194 => (some t194)) else ((R2_FirstOf.f k a0_0 a0_1 3).bind fun t195 => ((R2_FirstOf.f k a1_0 a1_1 3).bind fun t198 => (if t195.length + t198.length < 17592186044416 then ((R2_LeastOf.f k (t195 ++ t198)).bind fun bt204 => ((L2_isCongr.f bt190.1 bt190.2.1 bt190.2.2 bt204.1 bt204.2 0).bind fun t206 => (some t206))) else (none))))))))) else (none)) = some r := H
 have A3 := am A30
 clear A30
 by_cases c4 : t184 = true
 ·subst c4
  have H1 : ((R2_TwoCongrs.f k a0_0 a0_1 a1_0 a1_1).bind fun t185 => ((L2_own.f a0_0 a0_1).bind fun bt186 => ((L2_own.f a1_0 a1_1).bind fun bt188 => ((congr_Join.f k bt186.1 bt186.2 bt188.1 bt188.2).bind fun bt190 => (if t185 > 0 then ((L2_isCongr.f bt190.1 bt190.2.1 bt190.2.2 0 0 t185).bind fun t194 => (some t194)) else ((R2_FirstOf.f k a0_0 a0_1 3).bind fun t195 => ((R2_FirstOf.f k a1_0 a1_1 3).bind fun t198 => (if t195.length + t198.length < 17592186044416 then ((R2_LeastOf.f k (t195 ++ t198)).bind fun bt204 => ((L2_isCongr.f bt190.1 bt190.2.1 bt190.2.2 bt204.1 bt204.2 0).bind fun t206 => (some t206))) else (none))))))))) = some r := by rw [if_pos rfl] at H; exact H
  clear H
  have H := H1
  clear H1
  replace H := Option.bind_eq_some_iff.mp H
  obtain ⟨t185, A50, H⟩ := H
  replace H : ((L2_own.f a0_0 a0_1).bind fun bt186 => ((L2_own.f a1_0 a1_1).bind fun bt188 => ((congr_Join.f k bt186.1 bt186.2 bt188.1 bt188.2).bind fun bt190 => (if t185 > 0 then ((L2_isCongr.f bt190.1 bt190.2.1 bt190.2.2 0 0 t185).bind fun t194 => (some t194)) else ((R2_FirstOf.f k a0_0 a0_1 3).bind fun t195 => ((R2_FirstOf.f k a1_0 a1_1 3).bind fun t198 => (if t195.length + t198.length < 17592186044416 then ((R2_LeastOf.f k (t195 ++ t198)).bind fun bt204 => ((L2_isCongr.f bt190.1 bt190.2.1 bt190.2.2 bt204.1 bt204.2 0).bind fun t206 => (some t206))) else (none)))))))) = some r := H
  have A5 := am A50
  clear A50
  replace H := Option.bind_eq_some_iff.mp H
  obtain ⟨⟨t186, t187⟩, A60, H⟩ := H
  replace H : ((L2_own.f a1_0 a1_1).bind fun bt188 => ((congr_Join.f k t186 t187 bt188.1 bt188.2).bind fun bt190 => (if t185 > 0 then ((L2_isCongr.f bt190.1 bt190.2.1 bt190.2.2 0 0 t185).bind fun t194 => (some t194)) else ((R2_FirstOf.f k a0_0 a0_1 3).bind fun t195 => ((R2_FirstOf.f k a1_0 a1_1 3).bind fun t198 => (if t195.length + t198.length < 17592186044416 then ((R2_LeastOf.f k (t195 ++ t198)).bind fun bt204 => ((L2_isCongr.f bt190.1 bt190.2.1 bt190.2.2 bt204.1 bt204.2 0).bind fun t206 => (some t206))) else (none))))))) = some r := H
  have A6 := am A60
  clear A60
  replace H := Option.bind_eq_some_iff.mp H
  obtain ⟨⟨t188, t189⟩, A70, H⟩ := H
  replace H : ((congr_Join.f k t186 t187 t188 t189).bind fun bt190 => (if t185 > 0 then ((L2_isCongr.f bt190.1 bt190.2.1 bt190.2.2 0 0 t185).bind fun t194 => (some t194)) else ((R2_FirstOf.f k a0_0 a0_1 3).bind fun t195 => ((R2_FirstOf.f k a1_0 a1_1 3).bind fun t198 => (if t195.length + t198.length < 17592186044416 then ((R2_LeastOf.f k (t195 ++ t198)).bind fun bt204 => ((L2_isCongr.f bt190.1 bt190.2.1 bt190.2.2 bt204.1 bt204.2 0).bind fun t206 => (some t206))) else (none)))))) = some r := H
  have A7 := am A70
  clear A70
  replace H := Option.bind_eq_some_iff.mp H
  obtain ⟨⟨t190, t191, t192⟩, A80, H⟩ := H
  replace H : (if t185 > 0 then ((L2_isCongr.f t190 t191 t192 0 0 t185).bind fun t194 => (some t194)) else ((R2_FirstOf.f k a0_0 a0_1 3).bind fun t195 => ((R2_FirstOf.f k a1_0 a1_1 3).bind fun t198 => (if t195.length + t198.length < 17592186044416 then ((R2_LeastOf.f k (t195 ++ t198)).bind fun bt204 => ((L2_isCongr.f t190 t191 t192 bt204.1 bt204.2 0).bind fun t206 => (some t206))) else (none))))) = some r := H
  have A8 := am A80
  clear A80
  by_cases c9 : t185 > 0
  ·rw [if_pos c9] at H
   have c9b0 : decide (0 < t185) = true := decide_eq_true c9
   clear c9
   replace H := Option.bind_eq_some_iff.mp H
   obtain ⟨t194, A100, H⟩ := H
   replace H : (some t194) = some r := H
   have A10 := am A100
   clear A100
   obtain rfl := Option.some.inj H
   go_enter Tryd.func5, Tryd.ntmps5
   try go_wp2_with (first | ((with_reducible refine gate_dst (N := 2) rfl ?_); refine box_event ?hg (N := 2) ?hd (cs := #[.int .i64 a0_0, .int .i64 a0_1]) (t := 32) ?hr ?_; (case hd => rfl); (case hg => rfl); (case hr => first | (go_simp; done) | (go_simp; rfl)); intro gb182 hg w11 hbox hb; have n0_ := am (below_step pw hb); have n1_ := am (hbox); have n2_ := am ((by rw [hg]; exact (below_size pw) : w.heap.size ≤ gb182)); have n3_ := am ((by rw [hg]; exact (below_size pw) : w.heap.size ≤ gb182)); clear HB; have HB := n0_; have BK182 := n1_; have GW182 := n2_; have GE182 := n3_; clear n0_ n1_ n2_ n3_; clear hb hbox hg) | ((with_reducible refine gate_dst (N := 3) rfl ?_); refine box_event ?hg (N := 3) ?hd (cs := #[.int .i64 a1_0, .int .i64 a1_1]) (t := 32) ?hr ?_; (case hd => rfl); (case hg => rfl); (case hr => first | (go_simp; done) | (go_simp; rfl)); intro gb183 hg w12 hbox hb; have n0_ := bb BK182 hb; have n1_ := am (below_step pw hb); have n2_ := am (hbox); have n3_ := am ((by rw [hg]; exact (below_size pw) : w.heap.size ≤ gb183)); have n4_ := am ((by rw [hg]; exact (below_size pw) : w.heap.size ≤ gb183)); have n5_ := am ((by rw [hg]; exact Nat.ne_of_lt (blk_lt pk) : gb182 ≠ gb183)); have n6_ := am ((by rw [hg]; exact Nat.ne_of_gt (blk_lt pk) : gb183 ≠ gb182)); clear BK182; clear HB; have BK182 := n0_; have HB := n1_; have BK183 := n2_; have GW183 := n3_; have GE183 := n4_; have NB182_183 := n5_; have NB183_182 := n6_; clear n0_ n1_ n2_ n3_ n4_ n5_ n6_; clear hb hbox hg) | ((with_reducible refine gate_callee (f := 18) rfl ?_); refine goesL_ (some 10) rfl rfl Tryd.func18 kk rfl #[] rfl (by (try simp only [List.map_toArray, List.map_cons, List.map_nil]); first | done | rfl | (simp only [List.length_drop, List.length_take]; rfl)) ?_; (with_reducible refine (L2_sixth.calls k  true _ A3.out (am (ErrAt.below hE2.out pw)).out (am (ErrAt.below hE3.out pw)).out).mono ?_); rintro e w13 ⟨rfl, hb⟩; refine ⟨_, rfl, ?_⟩; have n0_ := bb BK182 hb; have n1_ := bb BK183 hb; have n2_ := am (below_step pw hb); clear BK182; clear BK183; clear HB; have BK182 := n0_; have BK183 := n1_; have HB := n2_; clear n0_ n1_ n2_; (try clear hb); (try clear hb2); (try clear hk); (try clear hi); have hnb14 := NB182_183.out; have hnc14 := NB183_182.out; have hcz15_0 : w13.cell? ⟨gb182, 0, none⟩ = some (.int .i64 a0_0) := bc BK182 0; have hcz15_1 : w13.cell? ⟨gb182, 1, none⟩ = some (.int .i64 a0_1) := bc BK182 1; have hfz15_0 := blk_frozen BK182.out 0; have hfz15_1 := blk_frozen BK182.out 1; have hcz16_0 : w13.cell? ⟨gb183, 0, none⟩ = some (.int .i64 a1_0) := bc BK183 0; have hcz16_1 : w13.cell? ⟨gb183, 1, none⟩ = some (.int .i64 a1_1) := bc BK183 1; have hfz16_0 := blk_frozen BK183.out 0; have hfz16_1 := blk_frozen BK183.out 1) | ((with_reducible refine gate_callee (f := 19) rfl ?_); refine goesL_ (some 15) rfl rfl Tryd.func19 kk rfl #[.agg #[.int .i64 a0_0, .int .i64 a0_1], .agg #[.int .i64 a1_0, .int .i64 a1_1]] rfl (by (try simp only [List.map_toArray, List.map_cons, List.map_nil]); first | done | rfl | (simp only [List.length_drop, List.length_take]; rfl)) ?_; (with_reducible refine (R2_TwoCongrs.calls k a0_0 a0_1 a1_0 a1_1 t185 _ A5.out).mono ?_); rintro e w17 ⟨rfl, hb⟩; refine ⟨_, rfl, ?_⟩; have n0_ := bb BK182 hb; have n1_ := bb BK183 hb; have n2_ := am (below_step pw hb); clear BK182; clear BK183; clear HB; have BK182 := n0_; have BK183 := n1_; have HB := n2_; clear n0_ n1_ n2_; (try clear hb); (try clear hb2); (try clear hk); (try clear hi)))
   have n0_ := am (blk_drew BK182.out)
   have n1_ := am (blk_drew BK183.out)
   have n2_ := am (below_drew1 HB.out)
   clear BK182 BK183 HB
   revert n0_ n1_ n2_
   intro BK182 BK183 HB
   refine start_ (n := 11) (S := fun w' => True) (ds := []) #[false, false, false, false, false, false, false, false, false, false, false] kk rfl rfl trivial (fun hHeld => ?_); refine with_tabW L2_CongrJoin.tab5 L2_CongrJoin.bits5 (fun HT_ HW_ => ?_)
   generalize w17.drew = w18 at BK182 BK183 HB hHeld ⊢
   refine inv_at [0, 1, 2, 3, 4, 5, 6, 7, 8, 9, 10] (fun a0_ b a w' => ∃ (gb193 : Nat) (m8_ : Value), a = putSel a0_ b [(0, 17, .agg #[.int .i64 a0_0, .int .i64 a0_1]), (1, 18, .agg #[.int .i64 t186, .int .i64 t187]), (2, 19, .agg #[.int .i64 a1_0, .int .i64 a1_1]), (3, 20, .agg #[.int .i64 t188, .int .i64 t189]), (4, 21, .tuple #[.agg #[.int .i64 t190, .int .i64 t191], errW t192]), (5, 16, .tuple #[.agg #[.int .i64 t190, .int .i64 t191], errW t192]), (6, 22, .agg #[.int .i64 t190, .int .i64 t191]), (7, 23, errW t192), (8, 7, m8_), (10, 8, errW t192)] ∧ (w'.heap[gb182]? = some (.cells #[.int .i64 a0_0, .int .i64 a0_1] 32 (0, 0))) ∧ (w'.heap[gb183]? = some (.cells #[.int .i64 a1_0, .int .i64 a1_1] 32 (0, 0))) ∧ (Below w.heap.size w w') ∧ (b 8 = true → b 9 = false → w'.heap[gb193]? = some (.cells #[.int .i64 0, .int .i64 0] 34 (0, 0))) ∧ (b 8 = true → w.heap.size ≤ gb193) ∧ (b 8 = true → w.heap.size ≤ gb193) ∧ (b 8 = true → gb182 ≠ gb193) ∧ (b 8 = true → gb193 ≠ gb182) ∧ (b 8 = true → gb183 ≠ gb193) ∧ (b 8 = true → gb193 ≠ gb183) ∧ (b 9 = true → w'.heap[gb193]? = some (.cells #[.int .i64 t190, .int .i64 t191] 34 (0, 0))) ∧ (b 8 = true → (m8_ : Value) = .pointer (some ⟨gb193, 0, none⟩))) HT_.out HW_.out kk kk ?_ ?_ ?_
   ·exact ⟨0, .bool false, by simp only [putSel, Bool.false_eq_true, if_false], BK182.out, BK183.out, HB.out, fun h_ => absurd h_ (by decide), fun h_ => absurd h_ (by decide), fun h_ => absurd h_ (by decide), fun h_ => absurd h_ (by decide), fun h_ => absurd h_ (by decide), fun h_ => absurd h_ (by decide), fun h_ => absurd h_ (by decide), fun h_ => absurd h_ (by decide), fun h_ => absurd h_ (by decide)⟩
   ·skip
    clear BK182 BK183 HB
    refine steps_cons ?_ ?_
    ·rintro b a w' ⟨gb193, m8_, ha, qB182, qB183, qHB, qB193, qW193, qE193, q182_193, q193_182, q183_193, q193_183, qB193_e9, Q_X8_⟩ hb_ hon hoff
     refine ⟨_, rfl, fun K hK => ?_⟩
     have e2 : a.tmps[2]? = some (.pointer (some ⟨gb182, 0, none⟩)) := by rw [ha]; exact (putSel_off rfl).trans rfl
     replace ha := am ha
     have BK182 := am qB182
     have BK183 := am qB183
     have HB := am qHB
     have hc0_ : w'.cell? ⟨gb182, 0, none⟩ = some (.int .i64 a0_0) := bc BK182 0
     have hc1_ : w'.cell? ⟨gb182, 1, none⟩ = some (.int .i64 a0_1) := bc BK182 1
     refine value_ (w1 := w') (v := .agg #[.int .i64 a0_0, .int .i64 a0_1]) (by rfl) rfl ?_ ?_
     ·go_simp
      (try simp only [i64_w])
      try rfl
     refine hK.out _ _ ⟨gb193, m8_, (by rw [ha.out]; exact putSel_upk 0 hb_ rfl rfl rfl), qB182, qB183, qHB, qB193, qW193, qE193, q182_193, q193_182, q183_193, q193_183, fun h0_ => absurd ((hoff 9 kk).symm.trans h0_) (by decide), Q_X8_⟩
    refine steps_cons ?_ ?_
    ·rintro b a w' ⟨gb193, m8_, ha, qB182, qB183, qHB, qB193, qW193, qE193, q182_193, q193_182, q183_193, q193_183, qB193_e9, Q_X8_⟩ hb_ hon hoff
     refine ⟨_, rfl, fun K hK => ?_⟩
     have e17 : a.tmps[17]? = some (.agg #[.int .i64 a0_0, .int .i64 a0_1]) := by rw [ha]; exact putSel_on (e := (0, 17, .agg #[.int .i64 a0_0, .int .i64 a0_1])) 0 rfl rfl (hon 0 kk) rfl
     replace ha := am ha
     have BK182 := am qB182
     have BK183 := am qB183
     have HB := am qHB
     refine goes_ Tryd.func21 kk rfl #[.agg #[.int .i64 a0_0, .int .i64 a0_1]] (by rfl) rfl rfl (by first | (simp only [List.map_toArray, List.map_cons, List.map_nil, Act.eval, Array.getD_eq_getD_getElem?, Option.getD_some, e17]; done) | (simp only [List.map_toArray, List.map_cons, List.map_nil, Act.eval, Array.getD_eq_getD_getElem?, Option.getD_some, e17]; rfl)) ?_
     with_reducible refine (L2_own.calls a0_0 a0_1 t186 t187 _ A6.out).mono ?_
     rintro e w19 ⟨rfl, hb⟩
     refine ⟨_, rfl, ?_⟩
     have n0_ := bb BK182 hb
     have n1_ := bb BK183 hb
     have n2_ := am (below_step pw hb)
     have z_BK193 := fun (h0_ : b 8 = true) (h1_ : b 9 = false) => (show w19.heap[gb193]? = some (.cells #[.int .i64 0, .int .i64 0] 34 (0, 0)) from by first | exact (blk_below (g := gb193) (o := .cells #[.int .i64 0, .int .i64 0] 34 (0, 0)) (by (with_reducible repeat (first | refine blk_drewN ?_ _ | refine blk_drew ?_ | refine blk_alloc ?_ _)); exact (qB193 h0_ h1_)) hb))
     clear BK182 BK183 HB
     revert n0_ n1_ n2_
     intro BK182 BK183 HB
     (try clear hb)
     (try clear hb2)
     (try clear hk)
     (try clear hi)
     refine hK.out _ _ ⟨gb193, m8_, (by rw [ha.out]; exact putSel_upk 1 hb_ rfl rfl rfl), pk, pk, pw, z_BK193, qW193, qE193, q182_193, q193_182, q183_193, q193_183, fun h0_ => absurd ((hoff 9 kk).symm.trans h0_) (by decide), Q_X8_⟩
    refine steps_cons ?_ ?_
    ·rintro b a w' ⟨gb193, m8_, ha, qB182, qB183, qHB, qB193, qW193, qE193, q182_193, q193_182, q183_193, q193_183, qB193_e9, Q_X8_⟩ hb_ hon hoff
     refine ⟨_, rfl, fun K hK => ?_⟩
     have e3 : a.tmps[3]? = some (.pointer (some ⟨gb183, 0, none⟩)) := by rw [ha]; exact (putSel_off rfl).trans rfl
     replace ha := am ha
     have BK182 := am qB182
     have BK183 := am qB183
     have HB := am qHB
     have hc0_ : w'.cell? ⟨gb183, 0, none⟩ = some (.int .i64 a1_0) := bc BK183 0
     have hc1_ : w'.cell? ⟨gb183, 1, none⟩ = some (.int .i64 a1_1) := bc BK183 1
     refine value_ (w1 := w') (v := .agg #[.int .i64 a1_0, .int .i64 a1_1]) (by rfl) rfl ?_ ?_
     ·go_simp
      (try simp only [i64_w])
      try rfl
     refine hK.out _ _ ⟨gb193, m8_, (by rw [ha.out]; exact putSel_upk 2 hb_ rfl rfl rfl), qB182, qB183, qHB, qB193, qW193, qE193, q182_193, q193_182, q183_193, q193_183, fun h0_ => absurd ((hoff 9 kk).symm.trans h0_) (by decide), Q_X8_⟩
    refine steps_cons ?_ ?_
    ·rintro b a w' ⟨gb193, m8_, ha, qB182, qB183, qHB, qB193, qW193, qE193, q182_193, q193_182, q183_193, q193_183, qB193_e9, Q_X8_⟩ hb_ hon hoff
     refine ⟨_, rfl, fun K hK => ?_⟩
     have e19 : a.tmps[19]? = some (.agg #[.int .i64 a1_0, .int .i64 a1_1]) := by rw [ha]; exact putSel_on (e := (2, 19, .agg #[.int .i64 a1_0, .int .i64 a1_1])) 2 rfl rfl (hon 2 kk) rfl
     replace ha := am ha
     have BK182 := am qB182
     have BK183 := am qB183
     have HB := am qHB
     refine goes_ Tryd.func21 kk rfl #[.agg #[.int .i64 a1_0, .int .i64 a1_1]] (by rfl) rfl rfl (by first | (simp only [List.map_toArray, List.map_cons, List.map_nil, Act.eval, Array.getD_eq_getD_getElem?, Option.getD_some, e19]; done) | (simp only [List.map_toArray, List.map_cons, List.map_nil, Act.eval, Array.getD_eq_getD_getElem?, Option.getD_some, e19]; rfl)) ?_
     with_reducible refine (L2_own.calls a1_0 a1_1 t188 t189 _ A7.out).mono ?_
     rintro e w21 ⟨rfl, hb⟩
     refine ⟨_, rfl, ?_⟩
     have n0_ := bb BK182 hb
     have n1_ := bb BK183 hb
     have n2_ := am (below_step pw hb)
     have z_BK193 := fun (h0_ : b 8 = true) (h1_ : b 9 = false) => (show w21.heap[gb193]? = some (.cells #[.int .i64 0, .int .i64 0] 34 (0, 0)) from by first | exact (blk_below (g := gb193) (o := .cells #[.int .i64 0, .int .i64 0] 34 (0, 0)) (by (with_reducible repeat (first | refine blk_drewN ?_ _ | refine blk_drew ?_ | refine blk_alloc ?_ _)); exact (qB193 h0_ h1_)) hb))
     clear BK182 BK183 HB
     revert n0_ n1_ n2_
     intro BK182 BK183 HB
     (try clear hb)
     (try clear hb2)
     (try clear hk)
     (try clear hi)
     refine hK.out _ _ ⟨gb193, m8_, (by rw [ha.out]; exact putSel_upk 3 hb_ rfl rfl rfl), pk, pk, pw, z_BK193, qW193, qE193, q182_193, q193_182, q183_193, q193_183, fun h0_ => absurd ((hoff 9 kk).symm.trans h0_) (by decide), Q_X8_⟩
    refine steps_cons ?_ ?_
    ·rintro b a w' ⟨gb193, m8_, ha, qB182, qB183, qHB, qB193, qW193, qE193, q182_193, q193_182, q183_193, q193_183, qB193_e9, Q_X8_⟩ hb_ hon hoff
     refine ⟨_, rfl, fun K hK => ?_⟩
     have e18 : a.tmps[18]? = some (.agg #[.int .i64 t186, .int .i64 t187]) := by rw [ha]; exact putSel_on (e := (1, 18, .agg #[.int .i64 t186, .int .i64 t187])) 1 rfl rfl (hon 1 kk) rfl
     have e20 : a.tmps[20]? = some (.agg #[.int .i64 t188, .int .i64 t189]) := by rw [ha]; exact putSel_on (e := (3, 20, .agg #[.int .i64 t188, .int .i64 t189])) 3 rfl rfl (hon 3 kk) rfl
     replace ha := am ha
     have BK182 := am qB182
     have BK183 := am qB183
     have HB := am qHB
     refine goes_ Tryd.func25 kk rfl #[.agg #[.int .i64 t186, .int .i64 t187], .agg #[.int .i64 t188, .int .i64 t189]] (by rfl) rfl rfl (by first | (simp only [List.map_toArray, List.map_cons, List.map_nil, Act.eval, Array.getD_eq_getD_getElem?, Option.getD_some, e18, e20]; done) | (simp only [List.map_toArray, List.map_cons, List.map_nil, Act.eval, Array.getD_eq_getD_getElem?, Option.getD_some, e18, e20]; rfl)) ?_
     with_reducible refine (congr_Join.calls k t186 t187 t188 t189 t190 t191 t192 _ A8.out (am (ErrAt.below hE2.out pw)).out (am (ErrAt.below hE3.out pw)).out).mono ?_
     rintro e w22 ⟨rfl, hb⟩
     refine ⟨_, rfl, ?_⟩
     have n0_ := bb BK182 hb
     have n1_ := bb BK183 hb
     have n2_ := am (below_step pw hb)
     have z_BK193 := fun (h0_ : b 8 = true) (h1_ : b 9 = false) => (show w22.heap[gb193]? = some (.cells #[.int .i64 0, .int .i64 0] 34 (0, 0)) from by first | exact (blk_below (g := gb193) (o := .cells #[.int .i64 0, .int .i64 0] 34 (0, 0)) (by (with_reducible repeat (first | refine blk_drewN ?_ _ | refine blk_drew ?_ | refine blk_alloc ?_ _)); exact (qB193 h0_ h1_)) hb))
     clear BK182 BK183 HB
     revert n0_ n1_ n2_
     intro BK182 BK183 HB
     (try clear hb)
     (try clear hb2)
     (try clear hk)
     (try clear hi)
     (try simp only [errW_none, errW_some])
     refine hK.out _ _ ⟨gb193, m8_, (by rw [ha.out]; exact putSel_upk 4 hb_ rfl rfl rfl), pk, pk, pw, z_BK193, qW193, qE193, q182_193, q193_182, q183_193, q193_183, fun h0_ => absurd ((hoff 9 kk).symm.trans h0_) (by decide), Q_X8_⟩
    refine steps_cons ?_ ?_
    ·rintro b a w' ⟨gb193, m8_, ha, qB182, qB183, qHB, qB193, qW193, qE193, q182_193, q193_182, q183_193, q193_183, qB193_e9, Q_X8_⟩ hb_ hon hoff
     refine ⟨_, rfl, fun K hK => ?_⟩
     have e21 : a.tmps[21]? = some (.tuple #[.agg #[.int .i64 t190, .int .i64 t191], errW t192]) := by rw [ha]; exact putSel_on (e := (4, 21, .tuple #[.agg #[.int .i64 t190, .int .i64 t191], errW t192])) 4 rfl rfl (hon 4 kk) rfl
     replace ha := am ha
     have BK182 := am qB182
     have BK183 := am qB183
     have HB := am qHB
     refine value_ (w1 := w') (v := .tuple #[.agg #[.int .i64 t190, .int .i64 t191], errW t192]) (by rfl) rfl ?_ ?_
     ·go_simp
      (try simp only [i64_w])
      try rfl
     refine hK.out _ _ ⟨gb193, m8_, (by rw [ha.out]; exact putSel_upk 5 hb_ rfl rfl rfl), qB182, qB183, qHB, qB193, qW193, qE193, q182_193, q193_182, q183_193, q193_183, fun h0_ => absurd ((hoff 9 kk).symm.trans h0_) (by decide), Q_X8_⟩
    refine steps_cons ?_ ?_
    ·rintro b a w' ⟨gb193, m8_, ha, qB182, qB183, qHB, qB193, qW193, qE193, q182_193, q193_182, q183_193, q193_183, qB193_e9, Q_X8_⟩ hb_ hon hoff
     refine ⟨_, rfl, fun K hK => ?_⟩
     have e16 : a.tmps[16]? = some (.tuple #[.agg #[.int .i64 t190, .int .i64 t191], errW t192]) := by rw [ha]; exact putSel_on (e := (5, 16, .tuple #[.agg #[.int .i64 t190, .int .i64 t191], errW t192])) 5 rfl rfl (hon 5 kk) rfl
     replace ha := am ha
     have BK182 := am qB182
     have BK183 := am qB183
     have HB := am qHB
     refine value_ (w1 := w') (v := .agg #[.int .i64 t190, .int .i64 t191]) (by rfl) rfl ?_ ?_
     ·go_simp
      (try simp only [i64_w])
      try rfl
     refine hK.out _ _ ⟨gb193, m8_, (by rw [ha.out]; exact putSel_upk 6 hb_ rfl rfl rfl), qB182, qB183, qHB, qB193, qW193, qE193, q182_193, q193_182, q183_193, q193_183, fun h0_ => absurd ((hoff 9 kk).symm.trans h0_) (by decide), Q_X8_⟩
    refine steps_cons ?_ ?_
    ·rintro b a w' ⟨gb193, m8_, ha, qB182, qB183, qHB, qB193, qW193, qE193, q182_193, q193_182, q183_193, q193_183, qB193_e9, Q_X8_⟩ hb_ hon hoff
     refine ⟨_, rfl, fun K hK => ?_⟩
     have e16 : a.tmps[16]? = some (.tuple #[.agg #[.int .i64 t190, .int .i64 t191], errW t192]) := by rw [ha]; exact putSel_on (e := (5, 16, .tuple #[.agg #[.int .i64 t190, .int .i64 t191], errW t192])) 5 rfl rfl (hon 5 kk) rfl
     replace ha := am ha
     have BK182 := am qB182
     have BK183 := am qB183
     have HB := am qHB
     refine value_ (w1 := w') (v := errW t192) (by rfl) rfl ?_ ?_
     ·go_simp
      (try simp only [i64_w])
      try rfl
     refine hK.out _ _ ⟨gb193, m8_, (by rw [ha.out]; exact putSel_upk 7 hb_ rfl rfl rfl), qB182, qB183, qHB, qB193, qW193, qE193, q182_193, q193_182, q183_193, q193_183, qB193_e9, Q_X8_⟩
    refine steps_cons ?_ ?_
    ·rintro b a w' ⟨gb193, m8_, ha, qB182, qB183, qHB, qB193, qW193, qE193, q182_193, q193_182, q183_193, q193_183, qB193_e9, Q_X8_⟩ hb_ hon hoff
     refine ⟨_, rfl, fun K hK => ?_⟩
     replace ha := am ha
     have BK182 := am qB182
     have BK183 := am qB183
     have HB := am qHB
     refine box_step ?hg (N := 7) ?hd (cs := #[.int .i64 0, .int .i64 0]) (t := 34) ?hr ?_; (case hd => rfl); (case hg => rfl); (case hr => first | (go_simp; done) | (go_simp; rfl))
     intro gb193 hg w19 hbox hb
     have n0_ := bb BK182 hb
     have n1_ := bb BK183 hb
     have n2_ := am (below_step pw hb)
     have n3_ := am (hbox)
     have n4_ := am ((by rw [hg]; exact (below_size pw) : w.heap.size ≤ gb193))
     have n5_ := am ((by rw [hg]; exact (below_size pw) : w.heap.size ≤ gb193))
     have n6_ := am ((by rw [hg]; exact Nat.ne_of_lt (blk_lt pk) : gb182 ≠ gb193))
     have n7_ := am ((by rw [hg]; exact Nat.ne_of_gt (blk_lt pk) : gb193 ≠ gb182))
     have n8_ := am ((by rw [hg]; exact Nat.ne_of_lt (blk_lt pk) : gb183 ≠ gb193))
     have n9_ := am ((by rw [hg]; exact Nat.ne_of_gt (blk_lt pk) : gb193 ≠ gb183))
     clear BK182 BK183 HB
     revert n0_ n1_ n2_ n3_ n4_ n5_ n6_ n7_ n8_ n9_
     intro BK182 BK183 HB BK193 GW193 GE193 NB182_193 NB193_182 NB183_193 NB193_183
     clear hb hbox hg
     refine hK.out _ _ ⟨gb193, (.pointer (some ⟨gb193, 0, none⟩)), (by rw [ha.out]; exact putSel_upk 8 hb_ rfl rfl rfl), pk, pk, pw, fun _ _ => pk, fun _ => GW193.out, fun _ => GE193.out, fun _ => NB182_193.out, fun _ => NB193_182.out, fun _ => NB183_193.out, fun _ => NB193_183.out, fun h0_ => absurd ((hoff 9 kk).symm.trans h0_) (by decide), fun _ => rfl⟩
    refine steps_cons ?_ ?_
    ·rintro b a w' ⟨gb193, m8_, ha, qB182, qB183, qHB, qB193, qW193, qE193, q182_193, q193_182, q183_193, q193_183, qB193_e9, Q_X8_⟩ hb_ hon hoff
     refine ⟨_, rfl, fun K hK => ?_⟩
     have e7 : a.tmps[7]? = some (m8_) := by rw [ha]; exact putSel_on (e := (8, 7, m8_)) 8 rfl rfl (hon 8 kk) rfl
     rw [Q_X8_ (hon 8 kk)] at e7
     have e22 : a.tmps[22]? = some (.agg #[.int .i64 t190, .int .i64 t191]) := by rw [ha]; exact putSel_on (e := (6, 22, .agg #[.int .i64 t190, .int .i64 t191])) 6 rfl rfl (hon 6 kk) rfl
     replace ha := am ha
     have BK182 := am qB182
     have BK183 := am qB183
     have HB := am qHB
     have BK193 := am (qB193 (hon 8 kk) hb_)
     have GW193 := am (qW193 (hon 8 kk))
     have GE193 := am (qE193 (hon 8 kk))
     have NB182_193 := am (q182_193 (hon 8 kk))
     have NB193_182 := am (q193_182 (hon 8 kk))
     have NB183_193 := am (q183_193 (hon 8 kk))
     have NB193_183 := am (q193_183 (hon 8 kk))
     have hs24 : w'.cell? ⟨gb193, 0, none⟩ = some (.int .i64 0) := bc BK193 0
     have hfs24 := blk_frozen BK193.out 0
     have hns24_0 := NB182_193.out
     have hns24_1 := NB183_193.out
     have hms24_0 := NB193_182.out
     have hms24_1 := NB193_183.out
     have hs25 : w'.cell? ⟨gb193, 1, none⟩ = some (.int .i64 0) := bc BK193 1
     have hfs25 := blk_frozen BK193.out 1
     have hns25_0 := NB182_193.out
     have hns25_1 := NB183_193.out
     have hms25_0 := NB193_182.out
     have hms25_1 := NB193_183.out
     refine skip_ (w1 := ?_) (by rfl) rfl ?_ ?_
     rotate_left
     ·go_simp
      rfl
     refine hK.out _ _ ⟨gb193, m8_, (by rw [ha.out]; exact putSel_none (v := undef) rfl), (by (with_reducible repeat (first | refine blk_drewN ?_ _ | refine blk_drew ?_ | refine blk_alloc ?_ _)); refine blk_far ?_ NB182_193.out _; (with_reducible repeat (first | refine blk_drewN ?_ _ | refine blk_drew ?_ | refine blk_alloc ?_ _)); refine blk_far ?_ NB182_193.out _; (with_reducible repeat (first | refine blk_drewN ?_ _ | refine blk_drew ?_ | refine blk_alloc ?_ _)); exact BK182.out), (by (with_reducible repeat (first | refine blk_drewN ?_ _ | refine blk_drew ?_ | refine blk_alloc ?_ _)); refine blk_far ?_ NB183_193.out _; (with_reducible repeat (first | refine blk_drewN ?_ _ | refine blk_drew ?_ | refine blk_alloc ?_ _)); refine blk_far ?_ NB183_193.out _; (with_reducible repeat (first | refine blk_drewN ?_ _ | refine blk_drew ?_ | refine blk_alloc ?_ _)); exact BK183.out), pw, fun _ h1_ => absurd ((up_self b 9).symm.trans h1_) (by decide), fun _ => GW193.out, fun _ => GE193.out, fun _ => NB182_193.out, fun _ => NB193_182.out, fun _ => NB183_193.out, fun _ => NB193_183.out, fun _ => (by (with_reducible repeat (first | refine blk_drewN ?_ _ | refine blk_drew ?_ | refine blk_alloc ?_ _)); refine blk_put (cs := #[.int .i64 t190, .int .i64 0]) ?_ 1 _ rfl; (with_reducible repeat (first | refine blk_drewN ?_ _ | refine blk_drew ?_ | refine blk_alloc ?_ _)); refine blk_put (cs := #[.int .i64 0, .int .i64 0]) ?_ 0 _ rfl; (with_reducible repeat (first | refine blk_drewN ?_ _ | refine blk_drew ?_ | refine blk_alloc ?_ _)); exact BK193.out), Q_X8_⟩
    refine steps_cons ?_ ?_
    ·rintro b a w' ⟨gb193, m8_, ha, qB182, qB183, qHB, qB193, qW193, qE193, q182_193, q193_182, q183_193, q193_183, qB193_e9, Q_X8_⟩ hb_ hon hoff
     refine ⟨_, rfl, fun K hK => ?_⟩
     have e23 : a.tmps[23]? = some (errW t192) := by rw [ha]; exact putSel_on (e := (7, 23, errW t192)) 7 rfl rfl (hon 7 kk) rfl
     replace ha := am ha
     have BK182 := am qB182
     have BK183 := am qB183
     have HB := am qHB
     have GW193 := am (qW193 (hon 8 kk))
     have GE193 := am (qE193 (hon 8 kk))
     have NB182_193 := am (q182_193 (hon 8 kk))
     have NB193_182 := am (q193_182 (hon 8 kk))
     have NB183_193 := am (q183_193 (hon 8 kk))
     have NB193_183 := am (q193_183 (hon 8 kk))
     have BK193 := am (qB193_e9 (hon 9 kk))
     refine value_ (w1 := w') (v := errW t192) (by rfl) rfl ?_ ?_
     ·go_simp
      (try simp only [i64_w])
      try rfl
     refine hK.out _ _ ⟨gb193, m8_, (by rw [ha.out]; exact putSel_upk 9 hb_ rfl rfl rfl), qB182, qB183, qHB, fun _ h1_ => absurd ((hon 9 kk).symm.trans h1_) (by decide), qW193, qE193, q182_193, q193_182, q183_193, q193_183, qB193_e9, Q_X8_⟩
    exact steps_nil
   rintro b a w25 hall ⟨gb193, m8_, ha, qB182, qB183, qHB, qB193, qW193, qE193, q182_193, q193_182, q183_193, q193_183, qB193_e9, Q_X8_⟩
   clear BK182 BK183 HB
   have hb0_ := hall 0 kk
   have hb1_ := hall 1 kk
   have hb2_ := hall 2 kk
   have hb3_ := hall 3 kk
   have hb4_ := hall 4 kk
   have hb5_ := hall 5 kk
   have hb6_ := hall 6 kk
   have hb7_ := hall 7 kk
   have hb8_ := hall 8 kk
   have hb9_ := hall 9 kk
   have hb10_ := hall 10 kk
   subst ha
   obtain rfl := Q_X8_ hb8_
   simp only [putSel, hb0_, hb1_, hb2_, hb3_, hb4_, hb5_, hb6_, hb7_, hb8_, hb9_, hb10_, if_true, Act.put, List.setIfInBounds_toArray, List.set_cons_zero, List.set_cons_succ]
   have BK182 := am qB182
   clear qB182
   have BK183 := am qB183
   clear qB183
   have HB := am qHB
   clear qHB
   clear qB193
   have GW193 := am (qW193 hb8_)
   clear qW193
   have GE193 := am (qE193 hb8_)
   clear qE193
   have NB182_193 := am (q182_193 hb8_)
   clear q182_193
   have NB193_182 := am (q193_182 hb8_)
   clear q193_182
   have NB183_193 := am (q183_193 hb8_)
   clear q183_193
   have NB193_183 := am (q193_183 hb8_)
   clear q193_183
   have BK193 := am (qB193_e9 hb9_)
   clear qB193_e9
   clear hall hb0_ hb1_ hb2_ hb3_ hb4_ hb5_ hb6_ hb7_ hb8_ hb9_ hb10_
   have hnb26 := NB193_182.out
   have hnc26 := NB182_193.out
   have hnb27 := NB193_183.out
   have hnc27 := NB183_193.out
   have hcz28_0 : w25.cell? ⟨gb193, 0, none⟩ = some (.int .i64 t190) := bc BK193 0
   have hcz28_1 : w25.cell? ⟨gb193, 1, none⟩ = some (.int .i64 t191) := bc BK193 1
   have hfz28_0 := blk_frozen BK193.out 0
   have hfz28_1 := blk_frozen BK193.out 1
   have CA10 := fun (W : World) (hE9_ : ErrAll W) => L2_isCongr.calls t190 t191 t192 0 0 t185 t194 W A10.out hE9_
   try simp only [errW_none, errW_some] at CA10
   try go_wp2_with (first | (go_at_call 22; (with_reducible refine (CA10 _ (ErrAll.below hE9.out pw)).mono ?_); rintro e w29 ⟨rfl, hb⟩; have n0_ := bb BK182 hb; have n1_ := bb BK183 hb; have n2_ := bb BK193 hb; have n3_ := am (below_step pw hb); clear BK182; clear BK183; clear BK193; clear HB; have BK182 := n0_; have BK183 := n1_; have BK193 := n2_; have HB := n3_; clear n0_ n1_ n2_ n3_; (try clear hb); (try clear hb2); (try clear hk); (try clear hi)))
   go_ret
   exact ⟨pe, pw⟩
  rw [if_neg c9] at H
  have c9b0 : decide (0 < t185) = false := decide_eq_false c9
  clear c9
  replace H := Option.bind_eq_some_iff.mp H
  obtain ⟨t195, A300, H⟩ := H
  replace H : ((R2_FirstOf.f k a1_0 a1_1 3).bind fun t198 => (if t195.length + t198.length < 17592186044416 then ((R2_LeastOf.f k (t195 ++ t198)).bind fun bt204 => ((L2_isCongr.f t190 t191 t192 bt204.1 bt204.2 0).bind fun t206 => (some t206))) else (none))) = some r := H
  have A30 := am A300
  clear A300
  replace H := Option.bind_eq_some_iff.mp H
  obtain ⟨t198, A310, H⟩ := H
  replace H : (if t195.length + t198.length < 17592186044416 then ((R2_LeastOf.f k (t195 ++ t198)).bind fun bt204 => ((L2_isCongr.f t190 t191 t192 bt204.1 bt204.2 0).bind fun t206 => (some t206))) else (none)) = some r := H
  have A31 := am A310
  clear A310
  by_cases c32 : t195.length + t198.length < 17592186044416
  ·rw [if_pos c32] at H
   have LMc32 := am c32
   clear c32
   obtain ⟨y201, hy201⟩ : ∃ y_ : List Int, y_ = (t195 ++ t198) := ⟨_, rfl⟩
   replace H : ((R2_LeastOf.f k y201).bind fun bt204 => ((L2_isCongr.f t190 t191 t192 bt204.1 bt204.2 0).bind fun t206 => (some t206))) = some r := by first | (rw [hy201]; with_reducible exact H) | (have H2_ := (Option.bind_some _ _).symm.trans H; rw [hy201]; with_reducible exact H2_) | (have H2_ := (Option.bind_some _ _).symm.trans H; with_reducible exact H2_) | with_reducible exact H | (rw [hy201]; exact H) | exact H
   have Ny201 := am hy201
   clear hy201
   replace H := Option.bind_eq_some_iff.mp H
   obtain ⟨⟨t204, t205⟩, A330, H⟩ := H
   replace H : ((L2_isCongr.f t190 t191 t192 t204 t205 0).bind fun t206 => (some t206)) = some r := H
   have A33 := am A330
   clear A330
   replace H := Option.bind_eq_some_iff.mp H
   obtain ⟨t206, A340, H⟩ := H
   replace H : (some t206) = some r := H
   have A34 := am A340
   clear A340
   obtain rfl := Option.some.inj H
   go_enter Tryd.func5, Tryd.ntmps5
   try go_wp2_with (first | ((with_reducible refine gate_dst (N := 2) rfl ?_); refine box_event ?hg (N := 2) ?hd (cs := #[.int .i64 a0_0, .int .i64 a0_1]) (t := 32) ?hr ?_; (case hd => rfl); (case hg => rfl); (case hr => first | (go_simp; done) | (go_simp; rfl)); intro gb182 hg w35 hbox hb; have n0_ := am (below_step pw hb); have n1_ := am (hbox); have n2_ := am ((by rw [hg]; exact (below_size pw) : w.heap.size ≤ gb182)); have n3_ := am ((by rw [hg]; exact (below_size pw) : w.heap.size ≤ gb182)); clear HB; have HB := n0_; have BK182 := n1_; have GW182 := n2_; have GE182 := n3_; clear n0_ n1_ n2_ n3_; clear hb hbox hg) | ((with_reducible refine gate_dst (N := 3) rfl ?_); refine box_event ?hg (N := 3) ?hd (cs := #[.int .i64 a1_0, .int .i64 a1_1]) (t := 32) ?hr ?_; (case hd => rfl); (case hg => rfl); (case hr => first | (go_simp; done) | (go_simp; rfl)); intro gb183 hg w36 hbox hb; have n0_ := bb BK182 hb; have n1_ := am (below_step pw hb); have n2_ := am (hbox); have n3_ := am ((by rw [hg]; exact (below_size pw) : w.heap.size ≤ gb183)); have n4_ := am ((by rw [hg]; exact (below_size pw) : w.heap.size ≤ gb183)); have n5_ := am ((by rw [hg]; exact Nat.ne_of_lt (blk_lt pk) : gb182 ≠ gb183)); have n6_ := am ((by rw [hg]; exact Nat.ne_of_gt (blk_lt pk) : gb183 ≠ gb182)); clear BK182; clear HB; have BK182 := n0_; have HB := n1_; have BK183 := n2_; have GW183 := n3_; have GE183 := n4_; have NB182_183 := n5_; have NB183_182 := n6_; clear n0_ n1_ n2_ n3_ n4_ n5_ n6_; clear hb hbox hg) | ((with_reducible refine gate_callee (f := 18) rfl ?_); refine goesL_ (some 10) rfl rfl Tryd.func18 kk rfl #[] rfl (by (try simp only [List.map_toArray, List.map_cons, List.map_nil]); first | done | rfl | (simp only [List.length_drop, List.length_take]; rfl)) ?_; (with_reducible refine (L2_sixth.calls k  true _ A3.out (am (ErrAt.below hE2.out pw)).out (am (ErrAt.below hE3.out pw)).out).mono ?_); rintro e w37 ⟨rfl, hb⟩; refine ⟨_, rfl, ?_⟩; have n0_ := bb BK182 hb; have n1_ := bb BK183 hb; have n2_ := am (below_step pw hb); clear BK182; clear BK183; clear HB; have BK182 := n0_; have BK183 := n1_; have HB := n2_; clear n0_ n1_ n2_; (try clear hb); (try clear hb2); (try clear hk); (try clear hi); have hnb38 := NB182_183.out; have hnc38 := NB183_182.out; have hcz39_0 : w37.cell? ⟨gb182, 0, none⟩ = some (.int .i64 a0_0) := bc BK182 0; have hcz39_1 : w37.cell? ⟨gb182, 1, none⟩ = some (.int .i64 a0_1) := bc BK182 1; have hfz39_0 := blk_frozen BK182.out 0; have hfz39_1 := blk_frozen BK182.out 1; have hcz40_0 : w37.cell? ⟨gb183, 0, none⟩ = some (.int .i64 a1_0) := bc BK183 0; have hcz40_1 : w37.cell? ⟨gb183, 1, none⟩ = some (.int .i64 a1_1) := bc BK183 1; have hfz40_0 := blk_frozen BK183.out 0; have hfz40_1 := blk_frozen BK183.out 1) | ((with_reducible refine gate_callee (f := 19) rfl ?_); refine goesL_ (some 15) rfl rfl Tryd.func19 kk rfl #[.agg #[.int .i64 a0_0, .int .i64 a0_1], .agg #[.int .i64 a1_0, .int .i64 a1_1]] rfl (by (try simp only [List.map_toArray, List.map_cons, List.map_nil]); first | done | rfl | (simp only [List.length_drop, List.length_take]; rfl)) ?_; (with_reducible refine (R2_TwoCongrs.calls k a0_0 a0_1 a1_0 a1_1 t185 _ A5.out).mono ?_); rintro e w41 ⟨rfl, hb⟩; refine ⟨_, rfl, ?_⟩; have n0_ := bb BK182 hb; have n1_ := bb BK183 hb; have n2_ := am (below_step pw hb); clear BK182; clear BK183; clear HB; have BK182 := n0_; have BK183 := n1_; have HB := n2_; clear n0_ n1_ n2_; (try clear hb); (try clear hb2); (try clear hk); (try clear hi)))
   have n0_ := am (blk_drew BK182.out)
   have n1_ := am (blk_drew BK183.out)
   have n2_ := am (below_drew1 HB.out)
   clear BK182 BK183 HB
   revert n0_ n1_ n2_
   intro BK182 BK183 HB
   refine start_ (n := 11) (S := fun w' => True) (ds := []) #[false, false, false, false, false, false, false, false, false, false, false] kk rfl rfl trivial (fun hHeld => ?_); refine with_tabW L2_CongrJoin.tab5 L2_CongrJoin.bits5 (fun HT_ HW_ => ?_)
   generalize w41.drew = w42 at BK182 BK183 HB hHeld ⊢
   refine inv_at [0, 1, 2, 3, 4, 5, 6, 7, 8, 9, 10] (fun a0_ b a w' => ∃ (gb193 : Nat) (m8_ : Value), a = putSel a0_ b [(0, 17, .agg #[.int .i64 a0_0, .int .i64 a0_1]), (1, 18, .agg #[.int .i64 t186, .int .i64 t187]), (2, 19, .agg #[.int .i64 a1_0, .int .i64 a1_1]), (3, 20, .agg #[.int .i64 t188, .int .i64 t189]), (4, 21, .tuple #[.agg #[.int .i64 t190, .int .i64 t191], errW t192]), (5, 16, .tuple #[.agg #[.int .i64 t190, .int .i64 t191], errW t192]), (6, 22, .agg #[.int .i64 t190, .int .i64 t191]), (7, 23, errW t192), (8, 7, m8_), (10, 8, errW t192)] ∧ (w'.heap[gb182]? = some (.cells #[.int .i64 a0_0, .int .i64 a0_1] 32 (0, 0))) ∧ (w'.heap[gb183]? = some (.cells #[.int .i64 a1_0, .int .i64 a1_1] 32 (0, 0))) ∧ (Below w.heap.size w w') ∧ (b 8 = true → b 9 = false → w'.heap[gb193]? = some (.cells #[.int .i64 0, .int .i64 0] 34 (0, 0))) ∧ (b 8 = true → w.heap.size ≤ gb193) ∧ (b 8 = true → w.heap.size ≤ gb193) ∧ (b 8 = true → gb182 ≠ gb193) ∧ (b 8 = true → gb193 ≠ gb182) ∧ (b 8 = true → gb183 ≠ gb193) ∧ (b 8 = true → gb193 ≠ gb183) ∧ (b 9 = true → w'.heap[gb193]? = some (.cells #[.int .i64 t190, .int .i64 t191] 34 (0, 0))) ∧ (b 8 = true → (m8_ : Value) = .pointer (some ⟨gb193, 0, none⟩))) HT_.out HW_.out kk kk ?_ ?_ ?_
   ·exact ⟨0, .bool false, by simp only [putSel, Bool.false_eq_true, if_false], BK182.out, BK183.out, HB.out, fun h_ => absurd h_ (by decide), fun h_ => absurd h_ (by decide), fun h_ => absurd h_ (by decide), fun h_ => absurd h_ (by decide), fun h_ => absurd h_ (by decide), fun h_ => absurd h_ (by decide), fun h_ => absurd h_ (by decide), fun h_ => absurd h_ (by decide), fun h_ => absurd h_ (by decide)⟩
   ·skip
    clear BK182 BK183 HB
    refine steps_cons ?_ ?_
    ·rintro b a w' ⟨gb193, m8_, ha, qB182, qB183, qHB, qB193, qW193, qE193, q182_193, q193_182, q183_193, q193_183, qB193_e9, Q_X8_⟩ hb_ hon hoff
     refine ⟨_, rfl, fun K hK => ?_⟩
     have e2 : a.tmps[2]? = some (.pointer (some ⟨gb182, 0, none⟩)) := by rw [ha]; exact (putSel_off rfl).trans rfl
     replace ha := am ha
     have BK182 := am qB182
     have BK183 := am qB183
     have HB := am qHB
     have hc0_ : w'.cell? ⟨gb182, 0, none⟩ = some (.int .i64 a0_0) := bc BK182 0
     have hc1_ : w'.cell? ⟨gb182, 1, none⟩ = some (.int .i64 a0_1) := bc BK182 1
     refine value_ (w1 := w') (v := .agg #[.int .i64 a0_0, .int .i64 a0_1]) (by rfl) rfl ?_ ?_
     ·go_simp
      (try simp only [i64_w])
      try rfl
     refine hK.out _ _ ⟨gb193, m8_, (by rw [ha.out]; exact putSel_upk 0 hb_ rfl rfl rfl), qB182, qB183, qHB, qB193, qW193, qE193, q182_193, q193_182, q183_193, q193_183, fun h0_ => absurd ((hoff 9 kk).symm.trans h0_) (by decide), Q_X8_⟩
    refine steps_cons ?_ ?_
    ·rintro b a w' ⟨gb193, m8_, ha, qB182, qB183, qHB, qB193, qW193, qE193, q182_193, q193_182, q183_193, q193_183, qB193_e9, Q_X8_⟩ hb_ hon hoff
     refine ⟨_, rfl, fun K hK => ?_⟩
     have e17 : a.tmps[17]? = some (.agg #[.int .i64 a0_0, .int .i64 a0_1]) := by rw [ha]; exact putSel_on (e := (0, 17, .agg #[.int .i64 a0_0, .int .i64 a0_1])) 0 rfl rfl (hon 0 kk) rfl
     replace ha := am ha
     have BK182 := am qB182
     have BK183 := am qB183
     have HB := am qHB
     refine goes_ Tryd.func21 kk rfl #[.agg #[.int .i64 a0_0, .int .i64 a0_1]] (by rfl) rfl rfl (by first | (simp only [List.map_toArray, List.map_cons, List.map_nil, Act.eval, Array.getD_eq_getD_getElem?, Option.getD_some, e17]; done) | (simp only [List.map_toArray, List.map_cons, List.map_nil, Act.eval, Array.getD_eq_getD_getElem?, Option.getD_some, e17]; rfl)) ?_
     with_reducible refine (L2_own.calls a0_0 a0_1 t186 t187 _ A6.out).mono ?_
     rintro e w43 ⟨rfl, hb⟩
     refine ⟨_, rfl, ?_⟩
     have n0_ := bb BK182 hb
     have n1_ := bb BK183 hb
     have n2_ := am (below_step pw hb)
     have z_BK193 := fun (h0_ : b 8 = true) (h1_ : b 9 = false) => (show w43.heap[gb193]? = some (.cells #[.int .i64 0, .int .i64 0] 34 (0, 0)) from by first | exact (blk_below (g := gb193) (o := .cells #[.int .i64 0, .int .i64 0] 34 (0, 0)) (by (with_reducible repeat (first | refine blk_drewN ?_ _ | refine blk_drew ?_ | refine blk_alloc ?_ _)); exact (qB193 h0_ h1_)) hb))
     clear BK182 BK183 HB
     revert n0_ n1_ n2_
     intro BK182 BK183 HB
     (try clear hb)
     (try clear hb2)
     (try clear hk)
     (try clear hi)
     refine hK.out _ _ ⟨gb193, m8_, (by rw [ha.out]; exact putSel_upk 1 hb_ rfl rfl rfl), pk, pk, pw, z_BK193, qW193, qE193, q182_193, q193_182, q183_193, q193_183, fun h0_ => absurd ((hoff 9 kk).symm.trans h0_) (by decide), Q_X8_⟩
    refine steps_cons ?_ ?_
    ·rintro b a w' ⟨gb193, m8_, ha, qB182, qB183, qHB, qB193, qW193, qE193, q182_193, q193_182, q183_193, q193_183, qB193_e9, Q_X8_⟩ hb_ hon hoff
     refine ⟨_, rfl, fun K hK => ?_⟩
     have e3 : a.tmps[3]? = some (.pointer (some ⟨gb183, 0, none⟩)) := by rw [ha]; exact (putSel_off rfl).trans rfl
     replace ha := am ha
     have BK182 := am qB182
     have BK183 := am qB183
     have HB := am qHB
     have hc0_ : w'.cell? ⟨gb183, 0, none⟩ = some (.int .i64 a1_0) := bc BK183 0
     have hc1_ : w'.cell? ⟨gb183, 1, none⟩ = some (.int .i64 a1_1) := bc BK183 1
     refine value_ (w1 := w') (v := .agg #[.int .i64 a1_0, .int .i64 a1_1]) (by rfl) rfl ?_ ?_
     ·go_simp
      (try simp only [i64_w])
      try rfl
     refine hK.out _ _ ⟨gb193, m8_, (by rw [ha.out]; exact putSel_upk 2 hb_ rfl rfl rfl), qB182, qB183, qHB, qB193, qW193, qE193, q182_193, q193_182, q183_193, q193_183, fun h0_ => absurd ((hoff 9 kk).symm.trans h0_) (by decide), Q_X8_⟩
    refine steps_cons ?_ ?_
    ·rintro b a w' ⟨gb193, m8_, ha, qB182, qB183, qHB, qB193, qW193, qE193, q182_193, q193_182, q183_193, q193_183, qB193_e9, Q_X8_⟩ hb_ hon hoff
     refine ⟨_, rfl, fun K hK => ?_⟩
     have e19 : a.tmps[19]? = some (.agg #[.int .i64 a1_0, .int .i64 a1_1]) := by rw [ha]; exact putSel_on (e := (2, 19, .agg #[.int .i64 a1_0, .int .i64 a1_1])) 2 rfl rfl (hon 2 kk) rfl
     replace ha := am ha
     have BK182 := am qB182
     have BK183 := am qB183
     have HB := am qHB
     refine goes_ Tryd.func21 kk rfl #[.agg #[.int .i64 a1_0, .int .i64 a1_1]] (by rfl) rfl rfl (by first | (simp only [List.map_toArray, List.map_cons, List.map_nil, Act.eval, Array.getD_eq_getD_getElem?, Option.getD_some, e19]; done) | (simp only [List.map_toArray, List.map_cons, List.map_nil, Act.eval, Array.getD_eq_getD_getElem?, Option.getD_some, e19]; rfl)) ?_
     with_reducible refine (L2_own.calls a1_0 a1_1 t188 t189 _ A7.out).mono ?_
     rintro e w45 ⟨rfl, hb⟩
     refine ⟨_, rfl, ?_⟩
     have n0_ := bb BK182 hb
     have n1_ := bb BK183 hb
     have n2_ := am (below_step pw hb)
     have z_BK193 := fun (h0_ : b 8 = true) (h1_ : b 9 = false) => (show w45.heap[gb193]? = some (.cells #[.int .i64 0, .int .i64 0] 34 (0, 0)) from by first | exact (blk_below (g := gb193) (o := .cells #[.int .i64 0, .int .i64 0] 34 (0, 0)) (by (with_reducible repeat (first | refine blk_drewN ?_ _ | refine blk_drew ?_ | refine blk_alloc ?_ _)); exact (qB193 h0_ h1_)) hb))
     clear BK182 BK183 HB
     revert n0_ n1_ n2_
     intro BK182 BK183 HB
     (try clear hb)
     (try clear hb2)
     (try clear hk)
     (try clear hi)
     refine hK.out _ _ ⟨gb193, m8_, (by rw [ha.out]; exact putSel_upk 3 hb_ rfl rfl rfl), pk, pk, pw, z_BK193, qW193, qE193, q182_193, q193_182, q183_193, q193_183, fun h0_ => absurd ((hoff 9 kk).symm.trans h0_) (by decide), Q_X8_⟩
    refine steps_cons ?_ ?_
    ·rintro b a w' ⟨gb193, m8_, ha, qB182, qB183, qHB, qB193, qW193, qE193, q182_193, q193_182, q183_193, q193_183, qB193_e9, Q_X8_⟩ hb_ hon hoff
     refine ⟨_, rfl, fun K hK => ?_⟩
     have e18 : a.tmps[18]? = some (.agg #[.int .i64 t186, .int .i64 t187]) := by rw [ha]; exact putSel_on (e := (1, 18, .agg #[.int .i64 t186, .int .i64 t187])) 1 rfl rfl (hon 1 kk) rfl
     have e20 : a.tmps[20]? = some (.agg #[.int .i64 t188, .int .i64 t189]) := by rw [ha]; exact putSel_on (e := (3, 20, .agg #[.int .i64 t188, .int .i64 t189])) 3 rfl rfl (hon 3 kk) rfl
     replace ha := am ha
     have BK182 := am qB182
     have BK183 := am qB183
     have HB := am qHB
     refine goes_ Tryd.func25 kk rfl #[.agg #[.int .i64 t186, .int .i64 t187], .agg #[.int .i64 t188, .int .i64 t189]] (by rfl) rfl rfl (by first | (simp only [List.map_toArray, List.map_cons, List.map_nil, Act.eval, Array.getD_eq_getD_getElem?, Option.getD_some, e18, e20]; done) | (simp only [List.map_toArray, List.map_cons, List.map_nil, Act.eval, Array.getD_eq_getD_getElem?, Option.getD_some, e18, e20]; rfl)) ?_
     with_reducible refine (congr_Join.calls k t186 t187 t188 t189 t190 t191 t192 _ A8.out (am (ErrAt.below hE2.out pw)).out (am (ErrAt.below hE3.out pw)).out).mono ?_
     rintro e w46 ⟨rfl, hb⟩
     refine ⟨_, rfl, ?_⟩
     have n0_ := bb BK182 hb
     have n1_ := bb BK183 hb
     have n2_ := am (below_step pw hb)
     have z_BK193 := fun (h0_ : b 8 = true) (h1_ : b 9 = false) => (show w46.heap[gb193]? = some (.cells #[.int .i64 0, .int .i64 0] 34 (0, 0)) from by first | exact (blk_below (g := gb193) (o := .cells #[.int .i64 0, .int .i64 0] 34 (0, 0)) (by (with_reducible repeat (first | refine blk_drewN ?_ _ | refine blk_drew ?_ | refine blk_alloc ?_ _)); exact (qB193 h0_ h1_)) hb))
     clear BK182 BK183 HB
     revert n0_ n1_ n2_
     intro BK182 BK183 HB
     (try clear hb)
     (try clear hb2)
     (try clear hk)
     (try clear hi)
     (try simp only [errW_none, errW_some])
     refine hK.out _ _ ⟨gb193, m8_, (by rw [ha.out]; exact putSel_upk 4 hb_ rfl rfl rfl), pk, pk, pw, z_BK193, qW193, qE193, q182_193, q193_182, q183_193, q193_183, fun h0_ => absurd ((hoff 9 kk).symm.trans h0_) (by decide), Q_X8_⟩
    refine steps_cons ?_ ?_
    ·rintro b a w' ⟨gb193, m8_, ha, qB182, qB183, qHB, qB193, qW193, qE193, q182_193, q193_182, q183_193, q193_183, qB193_e9, Q_X8_⟩ hb_ hon hoff
     refine ⟨_, rfl, fun K hK => ?_⟩
     have e21 : a.tmps[21]? = some (.tuple #[.agg #[.int .i64 t190, .int .i64 t191], errW t192]) := by rw [ha]; exact putSel_on (e := (4, 21, .tuple #[.agg #[.int .i64 t190, .int .i64 t191], errW t192])) 4 rfl rfl (hon 4 kk) rfl
     replace ha := am ha
     have BK182 := am qB182
     have BK183 := am qB183
     have HB := am qHB
     refine value_ (w1 := w') (v := .tuple #[.agg #[.int .i64 t190, .int .i64 t191], errW t192]) (by rfl) rfl ?_ ?_
     ·go_simp
      (try simp only [i64_w])
      try rfl
     refine hK.out _ _ ⟨gb193, m8_, (by rw [ha.out]; exact putSel_upk 5 hb_ rfl rfl rfl), qB182, qB183, qHB, qB193, qW193, qE193, q182_193, q193_182, q183_193, q193_183, fun h0_ => absurd ((hoff 9 kk).symm.trans h0_) (by decide), Q_X8_⟩
    refine steps_cons ?_ ?_
    ·rintro b a w' ⟨gb193, m8_, ha, qB182, qB183, qHB, qB193, qW193, qE193, q182_193, q193_182, q183_193, q193_183, qB193_e9, Q_X8_⟩ hb_ hon hoff
     refine ⟨_, rfl, fun K hK => ?_⟩
     have e16 : a.tmps[16]? = some (.tuple #[.agg #[.int .i64 t190, .int .i64 t191], errW t192]) := by rw [ha]; exact putSel_on (e := (5, 16, .tuple #[.agg #[.int .i64 t190, .int .i64 t191], errW t192])) 5 rfl rfl (hon 5 kk) rfl
     replace ha := am ha
     have BK182 := am qB182
     have BK183 := am qB183
     have HB := am qHB
     refine value_ (w1 := w') (v := .agg #[.int .i64 t190, .int .i64 t191]) (by rfl) rfl ?_ ?_
     ·go_simp
      (try simp only [i64_w])
      try rfl
     refine hK.out _ _ ⟨gb193, m8_, (by rw [ha.out]; exact putSel_upk 6 hb_ rfl rfl rfl), qB182, qB183, qHB, qB193, qW193, qE193, q182_193, q193_182, q183_193, q193_183, fun h0_ => absurd ((hoff 9 kk).symm.trans h0_) (by decide), Q_X8_⟩
    refine steps_cons ?_ ?_
    ·rintro b a w' ⟨gb193, m8_, ha, qB182, qB183, qHB, qB193, qW193, qE193, q182_193, q193_182, q183_193, q193_183, qB193_e9, Q_X8_⟩ hb_ hon hoff
     refine ⟨_, rfl, fun K hK => ?_⟩
     have e16 : a.tmps[16]? = some (.tuple #[.agg #[.int .i64 t190, .int .i64 t191], errW t192]) := by rw [ha]; exact putSel_on (e := (5, 16, .tuple #[.agg #[.int .i64 t190, .int .i64 t191], errW t192])) 5 rfl rfl (hon 5 kk) rfl
     replace ha := am ha
     have BK182 := am qB182
     have BK183 := am qB183
     have HB := am qHB
     refine value_ (w1 := w') (v := errW t192) (by rfl) rfl ?_ ?_
     ·go_simp
      (try simp only [i64_w])
      try rfl
     refine hK.out _ _ ⟨gb193, m8_, (by rw [ha.out]; exact putSel_upk 7 hb_ rfl rfl rfl), qB182, qB183, qHB, qB193, qW193, qE193, q182_193, q193_182, q183_193, q193_183, qB193_e9, Q_X8_⟩
    refine steps_cons ?_ ?_
    ·rintro b a w' ⟨gb193, m8_, ha, qB182, qB183, qHB, qB193, qW193, qE193, q182_193, q193_182, q183_193, q193_183, qB193_e9, Q_X8_⟩ hb_ hon hoff
     refine ⟨_, rfl, fun K hK => ?_⟩
     replace ha := am ha
     have BK182 := am qB182
     have BK183 := am qB183
     have HB := am qHB
     refine box_step ?hg (N := 7) ?hd (cs := #[.int .i64 0, .int .i64 0]) (t := 34) ?hr ?_; (case hd => rfl); (case hg => rfl); (case hr => first | (go_simp; done) | (go_simp; rfl))
     intro gb193 hg w43 hbox hb
     have n0_ := bb BK182 hb
     have n1_ := bb BK183 hb
     have n2_ := am (below_step pw hb)
     have n3_ := am (hbox)
     have n4_ := am ((by rw [hg]; exact (below_size pw) : w.heap.size ≤ gb193))
     have n5_ := am ((by rw [hg]; exact (below_size pw) : w.heap.size ≤ gb193))
     have n6_ := am ((by rw [hg]; exact Nat.ne_of_lt (blk_lt pk) : gb182 ≠ gb193))
     have n7_ := am ((by rw [hg]; exact Nat.ne_of_gt (blk_lt pk) : gb193 ≠ gb182))
     have n8_ := am ((by rw [hg]; exact Nat.ne_of_lt (blk_lt pk) : gb183 ≠ gb193))
     have n9_ := am ((by rw [hg]; exact Nat.ne_of_gt (blk_lt pk) : gb193 ≠ gb183))
     clear BK182 BK183 HB
     revert n0_ n1_ n2_ n3_ n4_ n5_ n6_ n7_ n8_ n9_
     intro BK182 BK183 HB BK193 GW193 GE193 NB182_193 NB193_182 NB183_193 NB193_183
     clear hb hbox hg
     refine hK.out _ _ ⟨gb193, (.pointer (some ⟨gb193, 0, none⟩)), (by rw [ha.out]; exact putSel_upk 8 hb_ rfl rfl rfl), pk, pk, pw, fun _ _ => pk, fun _ => GW193.out, fun _ => GE193.out, fun _ => NB182_193.out, fun _ => NB193_182.out, fun _ => NB183_193.out, fun _ => NB193_183.out, fun h0_ => absurd ((hoff 9 kk).symm.trans h0_) (by decide), fun _ => rfl⟩
    refine steps_cons ?_ ?_
    ·rintro b a w' ⟨gb193, m8_, ha, qB182, qB183, qHB, qB193, qW193, qE193, q182_193, q193_182, q183_193, q193_183, qB193_e9, Q_X8_⟩ hb_ hon hoff
     refine ⟨_, rfl, fun K hK => ?_⟩
     have e7 : a.tmps[7]? = some (m8_) := by rw [ha]; exact putSel_on (e := (8, 7, m8_)) 8 rfl rfl (hon 8 kk) rfl
     rw [Q_X8_ (hon 8 kk)] at e7
     have e22 : a.tmps[22]? = some (.agg #[.int .i64 t190, .int .i64 t191]) := by rw [ha]; exact putSel_on (e := (6, 22, .agg #[.int .i64 t190, .int .i64 t191])) 6 rfl rfl (hon 6 kk) rfl
     replace ha := am ha
     have BK182 := am qB182
     have BK183 := am qB183
     have HB := am qHB
     have BK193 := am (qB193 (hon 8 kk) hb_)
     have GW193 := am (qW193 (hon 8 kk))
     have GE193 := am (qE193 (hon 8 kk))
     have NB182_193 := am (q182_193 (hon 8 kk))
     have NB193_182 := am (q193_182 (hon 8 kk))
     have NB183_193 := am (q183_193 (hon 8 kk))
     have NB193_183 := am (q193_183 (hon 8 kk))
     have hs48 : w'.cell? ⟨gb193, 0, none⟩ = some (.int .i64 0) := bc BK193 0
     have hfs48 := blk_frozen BK193.out 0
     have hns48_0 := NB182_193.out
     have hns48_1 := NB183_193.out
     have hms48_0 := NB193_182.out
     have hms48_1 := NB193_183.out
     have hs49 : w'.cell? ⟨gb193, 1, none⟩ = some (.int .i64 0) := bc BK193 1
     have hfs49 := blk_frozen BK193.out 1
     have hns49_0 := NB182_193.out
     have hns49_1 := NB183_193.out
     have hms49_0 := NB193_182.out
     have hms49_1 := NB193_183.out
     refine skip_ (w1 := ?_) (by rfl) rfl ?_ ?_
     rotate_left
     ·go_simp
      rfl
     refine hK.out _ _ ⟨gb193, m8_, (by rw [ha.out]; exact putSel_none (v := undef) rfl), (by (with_reducible repeat (first | refine blk_drewN ?_ _ | refine blk_drew ?_ | refine blk_alloc ?_ _)); refine blk_far ?_ NB182_193.out _; (with_reducible repeat (first | refine blk_drewN ?_ _ | refine blk_drew ?_ | refine blk_alloc ?_ _)); refine blk_far ?_ NB182_193.out _; (with_reducible repeat (first | refine blk_drewN ?_ _ | refine blk_drew ?_ | refine blk_alloc ?_ _)); exact BK182.out), (by (with_reducible repeat (first | refine blk_drewN ?_ _ | refine blk_drew ?_ | refine blk_alloc ?_ _)); refine blk_far ?_ NB183_193.out _; (with_reducible repeat (first | refine blk_drewN ?_ _ | refine blk_drew ?_ | refine blk_alloc ?_ _)); refine blk_far ?_ NB183_193.out _; (with_reducible repeat (first | refine blk_drewN ?_ _ | refine blk_drew ?_ | refine blk_alloc ?_ _)); exact BK183.out), pw, fun _ h1_ => absurd ((up_self b 9).symm.trans h1_) (by decide), fun _ => GW193.out, fun _ => GE193.out, fun _ => NB182_193.out, fun _ => NB193_182.out, fun _ => NB183_193.out, fun _ => NB193_183.out, fun _ => (by (with_reducible repeat (first | refine blk_drewN ?_ _ | refine blk_drew ?_ | refine blk_alloc ?_ _)); refine blk_put (cs := #[.int .i64 t190, .int .i64 0]) ?_ 1 _ rfl; (with_reducible repeat (first | refine blk_drewN ?_ _ | refine blk_drew ?_ | refine blk_alloc ?_ _)); refine blk_put (cs := #[.int .i64 0, .int .i64 0]) ?_ 0 _ rfl; (with_reducible repeat (first | refine blk_drewN ?_ _ | refine blk_drew ?_ | refine blk_alloc ?_ _)); exact BK193.out), Q_X8_⟩
    refine steps_cons ?_ ?_
    ·rintro b a w' ⟨gb193, m8_, ha, qB182, qB183, qHB, qB193, qW193, qE193, q182_193, q193_182, q183_193, q193_183, qB193_e9, Q_X8_⟩ hb_ hon hoff
     refine ⟨_, rfl, fun K hK => ?_⟩
     have e23 : a.tmps[23]? = some (errW t192) := by rw [ha]; exact putSel_on (e := (7, 23, errW t192)) 7 rfl rfl (hon 7 kk) rfl
     replace ha := am ha
     have BK182 := am qB182
     have BK183 := am qB183
     have HB := am qHB
     have GW193 := am (qW193 (hon 8 kk))
     have GE193 := am (qE193 (hon 8 kk))
     have NB182_193 := am (q182_193 (hon 8 kk))
     have NB193_182 := am (q193_182 (hon 8 kk))
     have NB183_193 := am (q183_193 (hon 8 kk))
     have NB193_183 := am (q193_183 (hon 8 kk))
     have BK193 := am (qB193_e9 (hon 9 kk))
     refine value_ (w1 := w') (v := errW t192) (by rfl) rfl ?_ ?_
     ·go_simp
      (try simp only [i64_w])
      try rfl
     refine hK.out _ _ ⟨gb193, m8_, (by rw [ha.out]; exact putSel_upk 9 hb_ rfl rfl rfl), qB182, qB183, qHB, fun _ h1_ => absurd ((hon 9 kk).symm.trans h1_) (by decide), qW193, qE193, q182_193, q193_182, q183_193, q193_183, qB193_e9, Q_X8_⟩
    exact steps_nil
   rintro b a w49 hall ⟨gb193, m8_, ha, qB182, qB183, qHB, qB193, qW193, qE193, q182_193, q193_182, q183_193, q193_183, qB193_e9, Q_X8_⟩
   clear BK182 BK183 HB
   have hb0_ := hall 0 kk
   have hb1_ := hall 1 kk
   have hb2_ := hall 2 kk
   have hb3_ := hall 3 kk
   have hb4_ := hall 4 kk
   have hb5_ := hall 5 kk
   have hb6_ := hall 6 kk
   have hb7_ := hall 7 kk
   have hb8_ := hall 8 kk
   have hb9_ := hall 9 kk
   have hb10_ := hall 10 kk
   subst ha
   obtain rfl := Q_X8_ hb8_
   simp only [putSel, hb0_, hb1_, hb2_, hb3_, hb4_, hb5_, hb6_, hb7_, hb8_, hb9_, hb10_, if_true, Act.put, List.setIfInBounds_toArray, List.set_cons_zero, List.set_cons_succ]
   have BK182 := am qB182
   clear qB182
   have BK183 := am qB183
   clear qB183
   have HB := am qHB
   clear qHB
   clear qB193
   have GW193 := am (qW193 hb8_)
   clear qW193
   have GE193 := am (qE193 hb8_)
   clear qE193
   have NB182_193 := am (q182_193 hb8_)
   clear q182_193
   have NB193_182 := am (q193_182 hb8_)
   clear q193_182
   have NB183_193 := am (q183_193 hb8_)
   clear q183_193
   have NB193_183 := am (q193_183 hb8_)
   clear q193_183
   have BK193 := am (qB193_e9 hb9_)
   clear qB193_e9
   clear hall hb0_ hb1_ hb2_ hb3_ hb4_ hb5_ hb6_ hb7_ hb8_ hb9_ hb10_
   have hnb50 := NB182_193.out
   have hnc50 := NB193_182.out
   have hcz51_0 : w49.cell? ⟨gb182, 0, none⟩ = some (.int .i64 a0_0) := bc BK182 0
   have hcz51_1 : w49.cell? ⟨gb182, 1, none⟩ = some (.int .i64 a0_1) := bc BK182 1
   have hfz51_0 := blk_frozen BK182.out 0
   have hfz51_1 := blk_frozen BK182.out 1
   try go_wp2_with (first | ((with_reducible refine gate_callee (f := 26) rfl ?_); refine goesL_ (some 32) rfl rfl Tryd.func26 kk rfl #[.agg #[.int .i64 a0_0, .int .i64 a0_1], .int .i64 3] rfl (by (try simp only [List.map_toArray, List.map_cons, List.map_nil]); first | done | rfl | (simp only [List.length_drop, List.length_take]; rfl)) ?_; (with_reducible refine (R2_FirstOf.calls k a0_0 a0_1 3 t195 _ A30.out).mono ?_); rintro e w52 ⟨v196, rfl, ho0, hb⟩; refine ⟨_, rfl, ?_⟩; have n0_ := am (Kd.R_lower ho0 (below_size pw)); have n1_ := bb BK182 hb; have n2_ := bb BK183 hb; have n3_ := bb BK193 hb; have n4_ := am (below_step pw hb); clear BK182; clear BK183; clear BK193; clear HB; have HO197 := n0_; have BK182 := n1_; have BK183 := n2_; have BK193 := n3_; have HB := n4_; clear n0_ n1_ n2_ n3_ n4_; (try clear hb); (try clear hb2); (try clear hk); (try clear hi); (try clear ho0); have hnb53 := NB183_193.out; have hnc53 := NB193_183.out; have hcz54_0 : w52.cell? ⟨gb183, 0, none⟩ = some (.int .i64 a1_0) := bc BK183 0; have hcz54_1 : w52.cell? ⟨gb183, 1, none⟩ = some (.int .i64 a1_1) := bc BK183 1; have hfz54_0 := blk_frozen BK183.out 0; have hfz54_1 := blk_frozen BK183.out 1) | ((with_reducible refine gate_callee (f := 26) rfl ?_); refine goesL_ (some 35) rfl rfl Tryd.func26 kk rfl #[.agg #[.int .i64 a1_0, .int .i64 a1_1], .int .i64 3] rfl (by (try simp only [List.map_toArray, List.map_cons, List.map_nil]); first | done | rfl | (simp only [List.length_drop, List.length_take]; rfl)) ?_; (with_reducible refine (R2_FirstOf.calls k a1_0 a1_1 3 t198 _ A31.out).mono ?_); rintro e w55 ⟨v199, rfl, ho0, hb⟩; refine ⟨_, rfl, ?_⟩; have n0_ := am (Kd.R_elder' (by (with_reducible repeat (first | apply Kd.R_alloc | apply Kd.R_drewN | apply Kd.R_drew)); exact HO197.out) (Kd.R_base ho0) hb); have n1_ := am (Kd.R_lower (Kd.R_new' ho0 (Kd.R_lt (by (with_reducible repeat (first | apply Kd.R_alloc | apply Kd.R_drewN | apply Kd.R_drew)); exact HO197.out))) (below_size pw)); have n2_ := bb BK182 hb; have n3_ := bb BK183 hb; have n4_ := bb BK193 hb; have n5_ := am (below_step pw hb); clear HO197; clear BK182; clear BK183; clear BK193; clear HB; have HO197 := n0_; have HO200 := n1_; have BK182 := n2_; have BK183 := n3_; have BK193 := n4_; have HB := n5_; clear n0_ n1_ n2_ n3_ n4_ n5_; (try clear hb); (try clear hb2); (try clear hk); (try clear hi); (try clear ho0); obtain ⟨Ao57, co57, eo57⟩ := Kd.R_slice HO200.out; subst eo57) | ((with_reducible refine gate_builtin (b := .append) (xs := #[.tmp 33, .tmp 35]) rfl ?_); at_builtin; refine Kd.R_append_rows (Kd.int .i64) (w0 := w) w.heap.size rfl (.tmp 33) (.tmp 35) 40 3 (.int .i64 0) 8 rfl Tryd.underlying40 info3 rfl (by decide) (by omega) v196 t195 t198 _ _ _ (fun k_ => some k_ ≠ (.slice Ao57 t198.length co57 : Value).ownBlock) (fun _ => False) rfl rfl ?aO ?aR (fun _ _ h => h) (fun _ h => h.elim) ?aF ?aB ?aS ?aL ?_; (case aR => repeat (first | exact (Kd.R_reads' HO200.out).2.2 | (with_reducible refine Kd.C_alloc ?_ _) | (with_reducible refine Kd.C_drewN ?_ _) | (with_reducible refine Kd.C_drew ?_))); (case aB => exact pw); (case aF => exact (fun k_ hk => Kd.fresh' (Kd.R_lt (by (with_reducible repeat (first | apply Kd.R_alloc | apply Kd.R_drewN | apply Kd.R_drew)); exact HO200.out)) k_ hk)); (case aO => exact (by (with_reducible repeat (first | apply Kd.R_alloc | apply Kd.R_drewN | apply Kd.R_drew)); exact Kd.R_mono HO197.out (fun _ hk => hk.2))); (case aS => exact (below_size pw)); (case aL => have := LMc32.out; omega); intro v202 w56 ho hb hg hat; rw [← Ny201.out] at ho; have n0_ := am (blk_grown (g := gb182) (o := .cells #[.int .i64 a0_0, .int .i64 a0_1] 32 (0, 0)) pk hg (Kd.R_ne HO197.out BK182.out (by decide))); have n1_ := am (blk_grown (g := gb183) (o := .cells #[.int .i64 a1_0, .int .i64 a1_1] 32 (0, 0)) pk hg (Kd.R_ne HO197.out BK183.out (by decide))); have n2_ := am (blk_grown (g := gb193) (o := .cells #[.int .i64 t190, .int .i64 t191] 34 (0, 0)) pk hg (Kd.R_ne HO197.out BK193.out (by decide))); have n3_ := am (Kd.R_after (ok := (fun _ => True)) (by (with_reducible repeat (first | apply Kd.R_alloc | apply Kd.R_drewN | apply Kd.R_drew)); exact HO200.out) hg hat); have n4_ := am (hb); have n5_ := am (ho); clear BK182; clear BK183; clear BK193; clear HO200; clear HB; clear HO197; have BK182 := n0_; have BK183 := n1_; have BK193 := n2_; have HO200 := n3_; have HB := n4_; have HO203 := n5_; clear n0_ n1_ n2_ n3_ n4_ n5_; clear ho hb hg hat))
   have n0_ := am (Kd.R_drew HO200.out)
   have n1_ := am (Kd.R_drew HO203.out)
   have n2_ := am (blk_drew BK182.out)
   have n3_ := am (blk_drew BK183.out)
   have n4_ := am (blk_drew BK193.out)
   have n5_ := am (below_drew1 HB.out)
   clear HO200 HO203 BK182 BK183 BK193 HB
   revert n0_ n1_ n2_ n3_ n4_ n5_
   intro HO200 HO203 BK182 BK183 BK193 HB
   obtain ⟨Ao59, co59, eo59⟩ := Kd.R_slice HO203.out
   (first | subst eo59 | (injection eo59 with f1_ f2_ f3_; have f4_ := f1_.symm; have f5_ := f3_.symm; clear f1_ f2_ f3_; subst f4_; subst f5_))
   refine start_ (n := 6) (S := fun w' => w'.cell? ⟨gb193, 0, none⟩ = some (.int .i64 t190) ∧ w'.cell? ⟨gb193, 1, none⟩ = some (.int .i64 t191)) (ds := []) #[false, false, false, false, false, false] kk rfl rfl ⟨bc BK193 0, bc BK193 1⟩ (fun hHeld => ?_)
   generalize w56.drew = w58 at HO200 HO203 BK182 BK183 BK193 HB hHeld ⊢
   refine pure_ (i := 1) (N := some 38) (v := ?_) (a' := ?_) #[false, true, false, false, false, false] rfl rfl kk (fun _ _ _ h => h) (Or.inl ⟨by rfl, ?_⟩) ?_ ?_
   rotate_left
   ·intro w'
    go_simp
    with_reducible rfl
   rotate_left
   ·simp only [Act.put, List.setIfInBounds_toArray, List.set_cons_zero, List.set_cons_succ, i64_w, i32_w]
    rfl
   refine pure_ (i := 2) (N := some 39) (v := ?_) (a' := ?_) #[false, true, true, false, false, false] rfl rfl kk (fun _ _ _ h => h) (Or.inl ⟨by rfl, ?_⟩) ?_ ?_
   rotate_left
   ·intro w'
    go_simp
    with_reducible rfl
   rotate_left
   ·simp only [Act.put, List.setIfInBounds_toArray, List.set_cons_zero, List.set_cons_succ, i64_w, i32_w]
    rfl
   refine take_ (i := 0) (N := some 37) (v := ?_) (a' := ?_) #[true, true, true, false, false, false] rfl rfl kk (fun _ _ _ h => h) (Or.inl ⟨by rfl, ?_⟩) hHeld ?_ ?_
   rotate_left
   ·rintro w' ⟨s0, s1⟩
    go_simp
    with_reducible rfl
   rotate_left
   ·simp only [Act.put, List.setIfInBounds_toArray, List.set_cons_zero, List.set_cons_succ, i64_w, i32_w]
    rfl
   refine one_ (i := 3) (N := some 40) #[true, true, true, true, false, false] rfl rfl kk (by decide) (fun K hK => ?_)
   refine goes_ Tryd.func24 kk rfl #[.slice Ao59 y201.length co59] (by rfl) rfl rfl (by (try simp only [List.map_toArray, List.map_cons, List.map_nil]); first | done | rfl | (simp only [List.length_drop, List.length_take]; rfl)) ?_
   with_reducible refine (R2_LeastOf.calls k _ _ y201 t204 t205 _ ?side1 ?side2 A33.out).mono ?_
   (case side1 => repeat (first | exact (Kd.R_reads' HO203.out).2.2 | (with_reducible refine Kd.C_alloc ?_ _) | (with_reducible refine Kd.C_drewN ?_ _) | (with_reducible refine Kd.C_drew ?_)))
   (case side2 => exact (Kd.R_reads' HO203.out).2.1)
   rintro e w60 ⟨rfl, hb⟩
   refine ⟨_, rfl, ?_⟩
   have n0_ := am (Kd.R_below (by (with_reducible repeat (first | apply Kd.R_alloc | apply Kd.R_drewN | apply Kd.R_drew)); exact HO200.out) hb)
   have n1_ := am (Kd.R_below (by (with_reducible repeat (first | apply Kd.R_alloc | apply Kd.R_drewN | apply Kd.R_drew)); exact HO203.out) hb)
   have n2_ := bb BK182 hb
   have n3_ := bb BK183 hb
   have n4_ := bb BK193 hb
   have n5_ := am (below_step pw hb)
   clear HO200 HO203 BK182 BK183 BK193 HB
   revert n0_ n1_ n2_ n3_ n4_ n5_
   intro HO200 HO203 BK182 BK183 BK193 HB
   (try clear hb)
   (try clear hb2)
   (try clear hk)
   (try clear hi)
   have CA34 := fun (W : World) (hE9_ : ErrAll W) => L2_isCongr.calls t190 t191 t192 t204 t205 0 t206 W A34.out hE9_
   try simp only [errW_none, errW_some] at CA34
   refine hK.out _ _ ⟨bc BK193 0, bc BK193 1⟩ (fun hHeld => ?_)
   clear hK K
   refine norm_ (a' := ?_) ?_ ?_
   rotate_left
   ·show Act.put _ (some 40) _ = _
    simp only [Act.put, List.setIfInBounds_toArray, List.set_cons_zero, List.set_cons_succ, i64_w, i32_w]
    rfl
   refine one_ (i := 4) (N := some 41) #[true, true, true, true, true, false] rfl rfl kk (by decide) (fun K hK => ?_)
   refine goes_ Tryd.func22 kk rfl #[.agg #[.int .i64 t190, .int .i64 t191], errW t192, .agg #[.int .i64 t204, .int .i64 t205], .int .i64 0] (by rfl) rfl rfl (by (try simp only [List.map_toArray, List.map_cons, List.map_nil]); first | done | rfl | (simp only [List.length_drop, List.length_take]; rfl)) ?_
   with_reducible refine (CA34 _ (ErrAll.below hE9.out pw)).mono ?_
   rintro e w61 ⟨rfl, hb⟩
   refine ⟨_, rfl, ?_⟩
   have n0_ := am (Kd.R_below (by (with_reducible repeat (first | apply Kd.R_alloc | apply Kd.R_drewN | apply Kd.R_drew)); exact HO200.out) hb)
   have n1_ := am (Kd.R_below (by (with_reducible repeat (first | apply Kd.R_alloc | apply Kd.R_drewN | apply Kd.R_drew)); exact HO203.out) hb)
   have n2_ := bb BK182 hb
   have n3_ := bb BK183 hb
   have n4_ := bb BK193 hb
   have n5_ := am (below_step pw hb)
   clear HO200 HO203 BK182 BK183 BK193 HB
   revert n0_ n1_ n2_ n3_ n4_ n5_
   intro HO200 HO203 BK182 BK183 BK193 HB
   (try clear hb)
   (try clear hb2)
   (try clear hk)
   (try clear hi)
   refine hK.out _ _ ⟨bc BK193 0, bc BK193 1⟩ (fun hHeld => ?_)
   clear hK K
   refine norm_ (a' := ?_) ?_ ?_
   rotate_left
   ·show Act.put _ (some 41) _ = _
    simp only [Act.put, List.setIfInBounds_toArray, List.set_cons_zero, List.set_cons_succ, i64_w, i32_w]
    rfl
   refine pure_ (i := 5) (N := some 4) (v := ?_) (a' := ?_) #[true, true, true, true, true, true] rfl rfl kk (fun _ _ _ h => h) (Or.inl ⟨by rfl, ?_⟩) ?_ ?_
   rotate_left
   ·intro w'
    go_simp
    with_reducible rfl
   rotate_left
   ·simp only [Act.put, List.setIfInBounds_toArray, List.set_cons_zero, List.set_cons_succ, i64_w, i32_w]
    rfl
   refine done_ kk ?_
   try go_wp2
   go_ret
   exact ⟨pe, pw⟩
  rw [if_neg c32] at H
  exact absurd H (by simp)
 replace c4 := Bool.eq_false_iff.mpr c4
 subst c4
 have H1 : (none) = some r := by rw [if_neg (show ¬ (false = true) by decide)] at H; exact H
 clear H
 have H := H1
 clear H1
 exact absurd H (by simp)

end Go.Proofs.YtimgfgambeffeaaDoor.C
