/- Plain law: the references of congruences: which numbers one has, a few of them, the least one that has some. -/
import Derived.Test.YtimgfgambeffeaaDoorCgEv
import Derived.Test.YtimgfgambeffeaaDoorC7
import Derived.Test.YtimgfgambeffeaaDoorC7
import Derived.Test.YtimgfgambeffeaaDoorC9
import Derived.Test.YtimgfgambeffeaaDoorC6
set_option linter.unusedVariables false
namespace Go.Proofs.Rcp
open Go.RowKit Go.Proofs.Rcg Go.Proofs.YtimgfgambeffeaaDoor.C Go.Proofs.YtimgfgambeffeaaDoorW.PrintWords Go.Proofs.YtimgfgambeffeaaDoorW.PrintMore

theorem CV.mod {r m : Int} (h : CV r m) : m = 0 ∨ r % m = r := by
  rcases h with ⟨h, _⟩ | ⟨h1, _, h3, h4⟩
  · exact .inl h
  · exact .inr (Int.emod_eq_of_lt h3 h4)
theorem leaves_c {r m : Int} (n : Int) (h : CV r m) (h1 : -4611686018427387904 ≤ n) (h2 : n ≤ 4611686018427387904) : R2_LeavesOf.f r m n = some (inC r m n) := by
  have a := h.bd
  unfold R2_LeavesOf.f inC
  by_cases h0 : m = 0
  · rw [if_pos h0, if_pos h0]
  · rw [if_neg h0, if_neg h0, w64 (by omega) (by omega)]
    congr 1
    rw [Bool.eq_iff_iff, beq_iff_eq, beq_iff_eq, tmod_dvd, Int.dvd_iff_emod_eq_zero, ← Int.emod_eq_emod_iff_emod_sub_eq_zero]
    rcases h.mod with q | q
    · exact absurd q h0
    · rw [q]

/-! ### greatest common divisors of all -/
theorem common_l0 : ∀ (y x : Nat), Ev (fun k => R2_common.l0 k (x : Int) (y : Int)) ((Nat.gcd x y : Nat) : Int) := by
  intro y
  induction y using Nat.strongRecOn with
  | _ y ih =>
    intro x
    refine Ev.step (h := fun k => if (y : Int) > 0 then (if (y : Int) = 0 then none else R2_common.l0 k y (Int.tmod x y)) else some x) (fun k => by simp only [R2_common.l0]) ?_
    by_cases hy : y = 0
    · subst hy
      simp only [Nat.gcd_zero_right]
      exact .neg (by omega) .some
    · have e : Int.tmod (x : Int) (y : Int) = ((x % y : Nat) : Int) := by rw [Int.tmod_eq_emod_of_nonneg (by omega)]; rfl
      rw [e]
      refine .pos (by omega) (.neg (by omega) ?_)
      have g : Nat.gcd x y = Nat.gcd y (x % y) := by rw [Nat.gcd_comm x y, Nat.gcd_rec y x, Nat.gcd_comm]
      rw [g]
      exact ih (x % y) (Nat.mod_lt _ (by omega)) y
theorem ev_common (x : Nat) {b : Int} (hb : -9223372036854775807 ≤ b ∧ b ≤ 9223372036854775807) : Ev (fun k => R2_common.f k (x : Int) b) ((Nat.gcd x b.natAbs : Nat) : Int) := by
  have j1 : ∀ y : Nat, Ev (fun k => R2_common.j1 k (x : Int) (y : Int)) ((Nat.gcd x y : Nat) : Int) := fun y => Ev.step (h := fun k => R2_common.l0 k x y) (fun k => by simp only [R2_common.j1]) (common_l0 y x)
  unfold R2_common.f
  refine .neg (by omega) ?_
  refine Ev.step (h := fun k => if b < 0 then R2_common.j1 k x (wrap64 (-b)) else R2_common.j1 k x b) (fun k => by simp only [R2_common.j0]) ?_
  refine .ite (fun h => ?_) (fun h => ?_)
  · have e : wrap64 (-b) = ((b.natAbs : Nat) : Int) := by unfold wrap64; omega
    rw [e]
    exact j1 _
  · have e : b = ((b.natAbs : Nat) : Int) := by omega
    have := j1 b.natAbs
    rwa [← e] at this
theorem dvd_gcdL (d : Nat) : ∀ (l : List Int), d ∣ gcdL l ↔ ∀ x ∈ l, (d : Int) ∣ x := by
  have key : ∀ (l : List Int) (g : Nat), d ∣ l.foldl (fun g x => Nat.gcd g x.natAbs) g ↔ d ∣ g ∧ ∀ x ∈ l, (d : Int) ∣ x := by
    intro l
    induction l with
    | nil => intro g; simp
    | cons a l ih =>
      intro g
      simp only [List.foldl_cons, ih, Nat.dvd_gcd_iff, List.forall_mem_cons, Int.ofNat_dvd_left]
      exact ⟨fun h => ⟨h.1.1, h.1.2, h.2⟩, fun h => ⟨⟨h.1, h.2.1⟩, h.2.2⟩⟩
  intro l
  rw [gcdL, key]
  exact ⟨fun h => h.2, fun h => ⟨Nat.dvd_zero d, h⟩⟩
/-- Of what all differ from the first. -/
def diffG (l : List Int) : Nat := gcdL (l.map (· - l.getD 0 0))
theorem dvd_diffG {d : Nat} {l : List Int} : d ∣ diffG l ↔ ∀ x ∈ l, (d : Int) ∣ x - l.getD 0 0 := by
  unfold diffG
  rw [dvd_gcdL]
  simp only [List.mem_map, forall_exists_index, and_imp, forall_apply_eq_imp_iff₂]
theorem least_l0 {l : List Int} (h0 : 0 < l.length) (hl : l.length ≤ 1000000) (hb : ∀ k, k < l.length → -2305843009213693952 ≤ l.getD k 0 ∧ l.getD k 0 ≤ 2305843009213693952) :
    ∀ (d i : Nat), i + d = l.length → Ev (fun k => R2_LeastOf.l0 k l ((gcdL ((l.take i).map (· - l.getD 0 0)) : Nat) : Int) (i : Int)) (told (l.getD 0 0) ((diffG l : Nat) : Int)) := by
  have b0 := hb 0 h0
  have er : ∀ i : Nat, rd l (i : Int) = l.getD i 0 := fun i => by simp [rd]
  have er0 : rd l 0 = l.getD 0 0 := er 0
  intro d
  induction d with
  | zero =>
    intro i hi
    have et : gcdL ((l.take i).map (· - l.getD 0 0)) = diffG l := by rw [List.take_of_length_le (by omega)]; rfl
    rw [et]
    generalize diffG l = G
    refine Ev.step (h := fun k => if (G : Int) > 1048576 then some (0, 1) else if (G : Int) = 0 then (if decide (l.getD 0 0 > 1099511627776 ∨ l.getD 0 0 < -1099511627776) = true then some (0, 1) else some (l.getD 0 0, 0)) else if Int.tmod (l.getD 0 0) G < 0 then some (wrap64 (Int.tmod (l.getD 0 0) G + G), (G : Int)) else some (Int.tmod (l.getD 0 0) G, (G : Int))) (fun k => ?_) ?_
    · simp only [R2_LeastOf.l0]
      rw [if_neg (by omega)]
      simp only [er0, far_r, Option.bind_some]
      rw [if_pos (show (0 : Int) < (l.length : Int) by omega), if_pos (show (0 : Int) < (l.length : Int) by omega)]
    · by_cases h1 : (G : Int) > 1048576
      · rw [told_big h1]; exact .pos h1 .some
      · refine .neg h1 ?_
        by_cases h2 : (G : Int) = 0
        · rw [h2]
          refine .pos rfl ?_
          by_cases h3 : l.getD 0 0 > 1099511627776 ∨ l.getD 0 0 < -1099511627776
          · rw [told_far h3]; exact .pos (decide_eq_true h3) .some
          · rw [told_one (by omega) (by omega)]; exact .neg (by simpa using h3) .some
        · refine .neg h2 ?_
          rw [told_pos (by omega) (by omega)]
          have hB := tmod_bd (l.getD 0 0) G (by omega)
          have hm := tmod_up (l.getD 0 0) G (by omega)
          rw [Int.add_emod_right] at hm
          refine .ite (fun h => ?_) (fun h => ?_)
          · rw [w64 (by omega) (by omega)]
            have e : Int.tmod (l.getD 0 0) G + G = l.getD 0 0 % G := by
              rw [← hm, ← Int.add_emod_right]
              exact (Int.emod_eq_of_lt (by omega) (by omega)).symm
            rw [e]
            exact .some
          · have e : Int.tmod (l.getD 0 0) G = l.getD 0 0 % G := by
              rw [← hm]
              exact (Int.emod_eq_of_lt (by omega) (by omega)).symm
            rw [e]
            exact .some
  | succ d ih =>
    intro i hi
    have hlt : i < l.length := by omega
    have bi := hb i hlt
    refine Ev.step (h := fun k => (R2_common.f k ((gcdL ((l.take i).map (· - l.getD 0 0)) : Nat) : Int) (l.getD i 0 - l.getD 0 0)).bind fun t => R2_LeastOf.l0 k l t ((i + 1 : Nat) : Int)) (fun k => ?_) ?_
    · simp only [R2_LeastOf.l0]
      rw [if_pos (by omega), if_pos (by omega), if_pos (by omega), er, er0, w64 (n := l.getD i 0 - l.getD 0 0) (by omega) (by omega), w64 (n := (i : Int) + 1) (by omega) (by omega)]
      rfl
    · refine .bind (ev_common _ (by omega)) ?_
      have e : Nat.gcd (gcdL ((l.take i).map (· - l.getD 0 0))) (l.getD i 0 - l.getD 0 0).natAbs = gcdL ((l.take (i + 1)).map (· - l.getD 0 0)) := by
        rw [take_snoc hlt, List.map_append, List.map_singleton, gcdL_snoc]
      rw [e]
      exact ih (i + 1) (by omega)
theorem ev_LeastOf {l : List Int} (h0 : 0 < l.length) (hl : l.length ≤ 1000000) (hb : ∀ k, k < l.length → -2305843009213693952 ≤ l.getD k 0 ∧ l.getD k 0 ≤ 2305843009213693952) :
    Ev (fun k => R2_LeastOf.f k l) (told (l.getD 0 0) ((diffG l : Nat) : Int)) := by
  have := least_l0 h0 hl hb l.length 0 (by omega)
  unfold R2_LeastOf.f
  exact this
/-- Two ways to tell one congruence. -/
theorem told_same {x r : Int} {G H : Nat} (hG : ∀ d : Nat, d ∣ G ↔ d ∣ H) (h : (H : Int) ∣ x - r) : told x (G : Int) = told r (H : Int) := by
  have e : G = H := Nat.dvd_antisymm ((hG G).1 (Nat.dvd_refl _)) ((hG H).2 (Nat.dvd_refl _))
  subst e
  by_cases h1 : (G : Int) > 1048576
  · rw [told_big h1, told_big h1]
  · rcases Nat.eq_zero_or_pos G with rfl | h2
    · have : x = r := by have := Int.zero_dvd.1 h; omega
      rw [this]
    · rw [told_pos (by omega) (by omega), told_pos (by omega) (by omega)]
      rw [Int.emod_eq_emod_iff_emod_sub_eq_zero.2 (Int.emod_eq_zero_of_dvd h)]

/-! ### a few numbers -/
theorem first3 {r m : Int} (h : CV r m) : Ev (fun k => R2_FirstOf.f k r m 3) [r - m, r, r + m] := by
  have a := h.bd
  refine Ev.mono (k := 5) (fun k x h => R2_FirstOf.mono r m 3 k x h) ?_
  have e0 : wrap64 ((0 : Int) + 1) = 1 := by unfold wrap64; omega
  have e1 : wrap64 ((1 : Int) + 1) = 2 := by unfold wrap64; omega
  have e2 : wrap64 ((2 : Int) + 1) = 3 := by unfold wrap64; omega
  have t : Int.tdiv 3 2 = 1 := by decide
  have f0 : wrap64 ((0 : Int) - wrap64 (Int.tdiv 3 2)) = -1 := by rw [t]; unfold wrap64; omega
  have f1 : wrap64 ((1 : Int) - wrap64 (Int.tdiv 3 2)) = 0 := by rw [t]; unfold wrap64; omega
  have f2 : wrap64 ((2 : Int) - wrap64 (Int.tdiv 3 2)) = 1 := by rw [t]; unfold wrap64; omega
  simp only [R2_FirstOf.f, R2_FirstOf.l0, e0, e1, e2, f0, f1, f2]
  simp [w64 (n := -m) (by omega) (by omega), w64 (n := m) (by omega) (by omega), w64 (n := r + -m) (by omega) (by omega), w64 (n := r + m) (by omega) (by omega), w64 (n := r) (by omega) (by omega), w64 (n := 0) (by omega) (by omega)]
  omega
theorem first5 {r m : Int} (h : CV r m) : Ev (fun k => R2_FirstOf.f k r m 5) [r - 2 * m, r - m, r, r + m, r + 2 * m] := by
  have a := h.bd
  refine Ev.mono (k := 7) (fun k x h => R2_FirstOf.mono r m 5 k x h) ?_
  have e0 : wrap64 ((0 : Int) + 1) = 1 := by unfold wrap64; omega
  have e1 : wrap64 ((1 : Int) + 1) = 2 := by unfold wrap64; omega
  have e2 : wrap64 ((2 : Int) + 1) = 3 := by unfold wrap64; omega
  have e3 : wrap64 ((3 : Int) + 1) = 4 := by unfold wrap64; omega
  have e4 : wrap64 ((4 : Int) + 1) = 5 := by unfold wrap64; omega
  have t : Int.tdiv 5 2 = 2 := by decide
  have f0 : wrap64 ((0 : Int) - wrap64 (Int.tdiv 5 2)) = -2 := by rw [t]; unfold wrap64; omega
  have f1 : wrap64 ((1 : Int) - wrap64 (Int.tdiv 5 2)) = -1 := by rw [t]; unfold wrap64; omega
  have f2 : wrap64 ((2 : Int) - wrap64 (Int.tdiv 5 2)) = 0 := by rw [t]; unfold wrap64; omega
  have f3 : wrap64 ((3 : Int) - wrap64 (Int.tdiv 5 2)) = 1 := by rw [t]; unfold wrap64; omega
  have f4 : wrap64 ((4 : Int) - wrap64 (Int.tdiv 5 2)) = 2 := by rw [t]; unfold wrap64; omega
  simp only [R2_FirstOf.f, R2_FirstOf.l0, e0, e1, e2, e3, e4, f0, f1, f2, f3, f4]
  simp [w64 (n := -m) (by omega) (by omega), w64 (n := m) (by omega) (by omega), w64 (n := 2 * m) (by omega) (by omega), w64 (n := -2 * m) (by omega) (by omega), w64 (n := r + -m) (by omega) (by omega), w64 (n := r + m) (by omega) (by omega), w64 (n := r + 2 * m) (by omega) (by omega), w64 (n := r + -2 * m) (by omega) (by omega), w64 (n := r) (by omega) (by omega), w64 (n := 0) (by omega) (by omega)]
  omega

/-! ### errors by their numbers -/
theorem coded_ok : L2_coded.f none 0 = some true := rfl
theorem coded_err {c : Int} (h : c = 2 ∨ c = 3) : L2_coded.f (some c) c = some true := by
  unfold L2_coded.f
  rw [if_pos (by simp; omega)]
  simp
theorem coded_two {r m s n : Int} (h : cTwo r m s n ≠ none) : L2_coded.f (cTwo r m s n) (errN (cTwo r m s n)) = some true ∧ errN (cTwo r m s n) > 0 := by
  rcases cTwo_cases r m s n with e | e | e
  · exact absurd e h
  · rw [e]; exact ⟨coded_err (.inl rfl), by decide⟩
  · rw [e]; exact ⟨coded_err (.inr rfl), by decide⟩
/-- With an error the rest is 0. -/
theorem isCongr_err {r m s n : Int} (h : cTwo r m s n ≠ none) : L2_isCongr.f 0 0 (cTwo r m s n) 0 0 (errN (cTwo r m s n)) = some true := by
  obtain ⟨h1, h2⟩ := coded_two h
  unfold L2_isCongr.f
  rw [if_pos h2, h1]
  rfl
theorem isCongr_ok (x : Int × Int) : L2_isCongr.f x.1 x.2 none x.1 x.2 0 = some true := by
  unfold L2_isCongr.f L2_own.f
  rw [if_neg (by omega)]
  simp
theorem ev_two_bad {r m s n : Int} : Ev (fun k => congr_two.f k r m s n) (cTwo r m s n) := ev_two r m s n
end Go.Proofs.Rcp
