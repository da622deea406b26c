/- Plain law: the law 'CongrDone' as it is printed is true, whatever it is given. -/
import Derived.Test.YtimgfgambeffeaaDoorCgRef
import Derived.Test.YtimgfgambeffeaaDoorCgLat
import Derived.Test.YtimgfgambeffeaaDoorC13
import Derived.Test.YtimgfgambeffeaaDoorC14
set_option linter.unusedVariables false
namespace Go.Proofs.Rcp
open Go.RowKit Go.Proofs.Rcg Go.Proofs.YtimgfgambeffeaaDoor.C Go.Proofs.YtimgfgambeffeaaDoorW.PrintWords Go.Proofs.YtimgfgambeffeaaDoorW.PrintMore

theorem far_k {n : Int} (hn : 0 ≤ n ∧ n ≤ 1152921504606846976) (a : Int) : R2_Far.f a n = some (decide (a > n ∨ a < -n)) := by
  unfold R2_Far.f
  rw [w64 (by omega) (by omega)]
  split
  · rename_i h; rw [decide_eq_true (.inl h)]
  · rename_i h
    congr 1
    exact decide_eq_decide.2 ⟨.inr, fun q => q.resolve_left h⟩
theorem far_c20 (a : Int) : congr_far.f a 1048576 = some (decide (a > 1048576 ∨ a < -1048576)) := far_k (n := 1048576) (by omega) a

/-! ### with an error -/
theorem add_bad {r m s n : Int} (h : cTwo r m s n ≠ none) : Ev (fun k => congr_Add.f k r m s n) (0, 0, cTwo r m s n) := by
  unfold congr_Add.f
  refine .bind ev_two_bad ?_
  obtain ⟨c, hc⟩ := Option.ne_none_iff_exists'.1 h
  rw [hc]
  exact .neg (by simp) .some
theorem sub_bad {r m s n : Int} (h : cTwo r m s n ≠ none) : Ev (fun k => congr_Sub.f k r m s n) (0, 0, cTwo r m s n) := by
  unfold congr_Sub.f
  refine .bind ev_two_bad ?_
  obtain ⟨c, hc⟩ := Option.ne_none_iff_exists'.1 h
  rw [hc]
  exact .neg (by simp) .some
theorem mul_bad {r m s n : Int} (h : cTwo r m s n ≠ none) : Ev (fun k => congr_Mul.f k r m s n) (0, 0, cTwo r m s n) := by
  unfold congr_Mul.f
  refine .bind ev_two_bad ?_
  obtain ⟨c, hc⟩ := Option.ne_none_iff_exists'.1 h
  rw [hc]
  exact .neg (by simp) .some
/-- What 'Scale' tells of an error. -/
def sErr (r m n : Int) : Option Int := if (cValid r m).isNone = true then (if n > 1048576 ∨ n < -1048576 then some 2 else none) else cValid r m
theorem mul_bd {a b A B : Int} (h1 : -A ≤ a) (h2 : a ≤ A) (h3 : -B ≤ b) (h4 : b ≤ B) : -(A * B) ≤ a * b ∧ a * b ≤ A * B := by
  have q : (a * b).natAbs ≤ (A * B).natAbs := by
    rw [Int.natAbs_mul, Int.natAbs_mul]
    exact Nat.mul_le_mul (by omega) (by omega)
  have p : 0 ≤ A * B := Int.mul_nonneg (by omega) (by omega)
  omega
theorem ev_Scale {r m : Int} (n : Int) (h : CV r m) (h1 : -1048576 ≤ n) (h2 : n ≤ 1048576) : Ev (fun k => congr_Scale.f k r m n) ((told (r * n) ((m * n).natAbs : Nat)).1, (told (r * n) ((m * n).natAbs : Nat)).2, none) := by
  have a := h.bd
  have b1 := mul_bd (a := m) (b := n) (A := 1048576) (B := 1048576) (by omega) (by omega) (by omega) (by omega)
  have b2 := mul_bd (a := r) (b := n) (A := 1099511627776) (B := 1048576) (by omega) (by omega) (by omega) (by omega)
  unfold congr_Scale.f
  refine .bind (ev_Valid r m) ?_
  rw [cValid_none.2 h]
  refine .pos rfl (.bind (.of fun _ => far_c20 n) (.neg (by simp; omega) ?_))
  rw [w64 (n := m * n) (by omega) (by omega), w64 (n := r * n) (by omega) (by omega)]
  exact .bind (.of fun _ => size_c (by omega) (by omega)) (.bind (ev_told _ (by omega)) .some)
theorem ev_Scale_bad {r m n : Int} (h : sErr r m n ≠ none) : Ev (fun k => congr_Scale.f k r m n) (0, 0, sErr r m n) := by
  unfold congr_Scale.f
  refine .bind (ev_Valid r m) ?_
  unfold sErr at h ⊢
  by_cases e : (cValid r m).isNone = true
  · rw [if_pos e] at h ⊢
    refine .pos e (.bind (.of fun _ => far_c20 n) ?_)
    by_cases f : n > 1048576 ∨ n < -1048576
    · rw [if_pos f]; exact .pos (decide_eq_true f) .some
    · rw [if_neg f] at h; exact absurd rfl h
  · rw [if_neg e]
    refine .neg e ?_
    cases hc : cValid r m with
    | none => rw [hc] at e; exact absurd rfl e
    | some c => exact .some

/-! ### the lists -/
/-- One of the first three. -/
def xi (r m : Int) (i : Nat) : Int := r + ((i : Int) - 1) * m
theorem rd3 (r m : Int) {i : Nat} (h : i < 3) : rd [r - m, r, r + m] (i : Int) = xi r m i := by
  unfold xi
  match i, h with
  | 0, _ => simp [rd]; omega
  | 1, _ => simp [rd]
  | 2, _ => simp [rd]
/-- What comes of the first so many pairs. -/
def pairs (f : Int → Int → Int) (r m s n : Int) (t : Nat) : List Int := (List.range t).map fun u => f (xi r m (u / 3)) (xi s n (u % 3))
theorem pairs_succ (f : Int → Int → Int) (r m s n : Int) {i k : Nat} (h : k < 3) : pairs f r m s n (3 * i + k + 1) = pairs f r m s n (3 * i + k) ++ [f (xi r m i) (xi s n k)] := by
  unfold pairs
  rw [List.range_succ, List.map_append, List.map_singleton, show (3 * i + k) / 3 = i by omega, show (3 * i + k) % 3 = k by omega]
theorem pairs_length (f : Int → Int → Int) (r m s n : Int) (t : Nat) : (pairs f r m s n t).length = t := by simp [pairs]
theorem mem_pairs {f : Int → Int → Int} {r m s n : Int} {P : Int → Prop} : (∀ x ∈ pairs f r m s n 9, P x) ↔ ∀ i k : Nat, i < 3 → k < 3 → P (f (xi r m i) (xi s n k)) := by
  unfold pairs
  simp only [List.mem_map, List.mem_range, forall_exists_index, and_imp, forall_apply_eq_imp_iff₂]
  constructor
  · intro h i k hi hk
    have := h (3 * i + k) (by omega)
    rwa [show (3 * i + k) / 3 = i by omega, show (3 * i + k) % 3 = k by omega] at this
  · intro h u hu
    exact h _ _ (by omega) (by omega)
theorem pairs_zero (f : Int → Int → Int) (r m s n : Int) : (pairs f r m s n 9).getD 0 0 = f (xi r m 0) (xi s n 0) := rfl
/-- Are all that came till here near? -/
def near (r m s n : Int) (t : Nat) : Bool := (List.range t).all fun u => !decide (xi r m (u / 3) > 1073741824 ∨ xi r m (u / 3) < -1073741824) && !decide (xi s n (u % 3) > 1073741824 ∨ xi s n (u % 3) < -1073741824)
theorem near_succ (r m s n : Int) {i k : Nat} (h : k < 3) : near r m s n (3 * i + k + 1) = (near r m s n (3 * i + k) && (!decide (xi r m i > 1073741824 ∨ xi r m i < -1073741824) && !decide (xi s n k > 1073741824 ∨ xi s n k < -1073741824))) := by
  unfold near
  rw [List.range_succ, List.all_append, show (List.all [3 * i + k] fun u => !decide (xi r m (u / 3) > 1073741824 ∨ xi r m (u / 3) < -1073741824) && !decide (xi s n (u % 3) > 1073741824 ∨ xi s n (u % 3) < -1073741824)) = (!decide (xi r m i > 1073741824 ∨ xi r m i < -1073741824) && !decide (xi s n k > 1073741824 ∨ xi s n k < -1073741824)) from ?_]
  simp only [List.all_cons, List.all_nil, Bool.and_true, show (3 * i + k) / 3 = i by omega, show (3 * i + k) % 3 = k by omega]
theorem xi_bd {r m : Int} (h : CV r m) {i : Nat} (hi : i < 3) : -1099512676352 ≤ xi r m i ∧ xi r m i ≤ 1099512676352 := by
  have a := h.bd
  unfold xi
  match i, hi with
  | 0, _ => simp; omega
  | 1, _ => simp; omega
  | 2, _ => simp; omega
/-- The least congruence of pairs. -/
theorem least_pairs {f : Int → Int → Int} {r m s n x : Int} {H : Nat} (hb : ∀ i k : Nat, i < 3 → k < 3 → -2305843009213693952 ≤ f (xi r m i) (xi s n k) ∧ f (xi r m i) (xi s n k) ≤ 2305843009213693952)
    (hd : ∀ d : Nat, (∀ i k : Nat, i < 3 → k < 3 → (d : Int) ∣ f (xi r m i) (xi s n k) - f (xi r m 0) (xi s n 0)) ↔ d ∣ H) (hx : (H : Int) ∣ f (xi r m 0) (xi s n 0) - x) : Ev (fun k => R2_LeastOf.f k (pairs f r m s n 9)) (told x (H : Int)) := by
  have := ev_LeastOf (l := pairs f r m s n 9) (by rw [pairs_length]; omega) (by rw [pairs_length]; omega) (fun k hk => by
    rw [pairs_length] at hk
    have e : (pairs f r m s n 9).getD k 0 ∈ pairs f r m s n 9 := by rw [List.getD_eq_getElem?_getD, List.getElem?_eq_getElem (by rw [pairs_length]; exact hk)]; exact List.getElem_mem _
    exact (mem_pairs (P := fun x => -2305843009213693952 ≤ x ∧ x ≤ 2305843009213693952)).2 hb _ e)
  have e : told ((pairs f r m s n 9).getD 0 0) ((diffG (pairs f r m s n 9) : Nat) : Int) = told x (H : Int) := by
    refine told_same (fun d => ?_) (by rw [pairs_zero]; exact hx)
    rw [dvd_diffG, pairs_zero, mem_pairs]
    exact hd d
  rwa [e] at this

/-! ### the loops -/
section
variable {r m s n p1 p2 q1 q2 s1 s2 : Int}
/-- Behind the loops. -/
theorem done_end {P : List Int} (hP : near r m s n 9 = true → P = pairs (· * ·) r m s n 9) (hA : Ev (fun k => R2_LeastOf.f k (pairs (· + ·) r m s n 9)) (p1, p2)) (hS : Ev (fun k => R2_LeastOf.f k (pairs (· - ·) r m s n 9)) (q1, q2))
    (hM : near r m s n 9 = true → Ev (fun k => R2_LeastOf.f k (pairs (· * ·) r m s n 9)) (s1, s2)) :
    Ev (fun k => L2_CongrDone.l1 k none none none (pairs (· + ·) r m s n 9) (pairs (· - ·) r m s n 9) P [r - m, r, r + m] [s - n, s, s + n] (near r m s n 9) 3 p1 p2 q1 q2 s1 s2) true := by
  refine Ev.step (h := fun k => (R2_LeastOf.f k (pairs (· + ·) r m s n 9)).bind fun b => (L2_isCongr.f p1 p2 none b.1 b.2 0).bind fun t => if t = true then ((R2_LeastOf.f k (pairs (· - ·) r m s n 9)).bind fun b => (L2_isCongr.f q1 q2 none b.1 b.2 0).bind fun t => L2_CongrDone.j6 k none P (near r m s n 9) (!t) s1 s2) else L2_CongrDone.j6 k none P (near r m s n 9) true s1 s2) (fun k => ?_) ?_
  · simp only [L2_CongrDone.l1]
    rw [if_neg (by simp)]
  · refine .bind hA (.bind (.of fun _ => isCongr_ok (p1, p2)) (.pos rfl (.bind hS (.bind (.of fun _ => isCongr_ok (q1, q2)) ?_))))
    refine Ev.step (h := fun k => if near r m s n 9 = true then ((R2_LeastOf.f k P).bind fun b => (L2_isCongr.f s1 s2 none b.1 b.2 0).bind fun t => some t) else some true) (fun k => by simp only [L2_CongrDone.j6, Bool.not_true, Bool.false_eq_true, if_false]) ?_
    refine .ite (fun h => ?_) (fun _ => .some)
    rw [hP h]
    exact .bind (hM h) (.bind (.of fun _ => isCongr_ok (s1, s2)) .some)
/-- At a pair. -/
def AtPair (r m s n p1 p2 q1 q2 s1 s2 : Int) (i k : Nat) : Prop := ∀ P : List Int, (near r m s n (3 * i + k) = true → P = pairs (· * ·) r m s n (3 * i + k)) → P.length ≤ 3 * i + k →
  Ev (fun j => L2_CongrDone.l2 j none none none (pairs (· + ·) r m s n (3 * i + k)) (pairs (· - ·) r m s n (3 * i + k)) P [r - m, r, r + m] [s - n, s, s + n] (near r m s n (3 * i + k)) (i : Int) (k : Int) p1 p2 q1 q2 s1 s2) true
theorem pair_step (h : CV r m) (h' : CV s n) {i k : Nat} (hi : i < 3) (hk : k < 3) (next : AtPair r m s n p1 p2 q1 q2 s1 s2 i (k + 1)) : AtPair r m s n p1 p2 q1 q2 s1 s2 i k := by
  intro P hP hl
  have bx := xi_bd h hi
  have by_ := xi_bd h' hk
  unfold AtPair at next
  rw [show 3 * i + (k + 1) = 3 * i + k + 1 by omega, near_succ r m s n hk, pairs_succ _ r m s n hk, pairs_succ _ r m s n hk, pairs_succ _ r m s n hk] at next
  generalize near r m s n (3 * i + k) = b at next hP ⊢
  have la := pairs_length (· + ·) r m s n (3 * i + k)
  have ls := pairs_length (· - ·) r m s n (3 * i + k)
  generalize pairs (· + ·) r m s n (3 * i + k) = A at next la ⊢
  generalize pairs (· - ·) r m s n (3 * i + k) = S at next ls ⊢
  generalize pairs (· * ·) r m s n (3 * i + k) = M at next hP
  have ex := rd3 r m hi
  have ey := rd3 s n hk
  generalize hX : xi r m i = x at next bx ex
  generalize hY : xi s n k = y at next by_ ey
  have e1 : ((k + 1 : Nat) : Int) = (k : Int) + 1 := by omega
  refine Ev.step (h := fun j => if b = true then (if decide (x > 1073741824 ∨ x < -1073741824) = true then L2_CongrDone.l2 j none none none (A ++ [x + y]) (S ++ [x - y]) P [r - m, r, r + m] [s - n, s, s + n] false (i : Int) ((k + 1 : Nat) : Int) p1 p2 q1 q2 s1 s2 else if decide (y > 1073741824 ∨ y < -1073741824) = true then L2_CongrDone.l2 j none none none (A ++ [x + y]) (S ++ [x - y]) P [r - m, r, r + m] [s - n, s, s + n] false (i : Int) ((k + 1 : Nat) : Int) p1 p2 q1 q2 s1 s2 else L2_CongrDone.l2 j none none none (A ++ [x + y]) (S ++ [x - y]) (P ++ [wrap64 (x * y)]) [r - m, r, r + m] [s - n, s, s + n] true (i : Int) ((k + 1 : Nat) : Int) p1 p2 q1 q2 s1 s2) else L2_CongrDone.l2 j none none none (A ++ [x + y]) (S ++ [x - y]) P [r - m, r, r + m] [s - n, s, s + n] false (i : Int) ((k + 1 : Nat) : Int) p1 p2 q1 q2 s1 s2) (fun j => ?_) ?_
  · have f1 := far_k (n := 1073741824) (by omega) x
    have f2 := far_k (n := 1073741824) (by omega) y
    simp only [L2_CongrDone.l2]
    rw [if_pos (show (k : Int) < ([s - n, s, s + n].length : Int) by simp; omega), if_pos (show (0 : Int) ≤ (i : Int) by omega), if_pos (show (i : Int) < ([r - m, r, r + m].length : Int) by simp; omega), if_pos (show (0 : Int) ≤ (k : Int) by omega), if_pos (show A.length < 17592186044416 by omega)]
    simp only [Option.bind_some, ex, ey, f1, f2, if_pos (show S.length < 17592186044416 by omega), if_pos (show P.length < 17592186044416 by omega)]
    rw [w64 (n := x + y) (by omega) (by omega), w64 (n := x - y) (by omega) (by omega), w64 (n := (k : Int) + 1) (by omega) (by omega), ← e1]
    cases b <;> cases decide (x > 1073741824 ∨ x < -1073741824) <;> cases decide (y > 1073741824 ∨ y < -1073741824) <;> rfl
  · cases b with
    | false => exact .neg (by decide) (next P (fun q => by simp at q) (by omega))
    | true =>
      refine .pos rfl ?_
      by_cases fx : x > 1073741824 ∨ x < -1073741824
      · rw [decide_eq_true fx] at next ⊢
        exact .pos rfl (next P (fun q => by simp at q) (by omega))
      · rw [decide_eq_false fx] at next ⊢
        refine .neg (by decide) ?_
        by_cases fy : y > 1073741824 ∨ y < -1073741824
        · rw [decide_eq_true fy] at next ⊢
          exact .pos rfl (next P (fun q => by simp at q) (by omega))
        · rw [decide_eq_false fy] at next ⊢
          have bm := mul_bd (a := x) (b := y) (A := 1073741824) (B := 1073741824) (by omega) (by omega) (by omega) (by omega)
          rw [w64 (n := x * y) (by omega) (by omega)]
          exact .neg (by decide) (next (P ++ [x * y]) (fun _ => by rw [hP rfl]) (by simp; omega))
/-- At a row's start. -/
def AtRow (r m s n p1 p2 q1 q2 s1 s2 : Int) (i : Nat) : Prop := ∀ P : List Int, (near r m s n (3 * i) = true → P = pairs (· * ·) r m s n (3 * i)) → P.length ≤ 3 * i →
  Ev (fun j => L2_CongrDone.l1 j none none none (pairs (· + ·) r m s n (3 * i)) (pairs (· - ·) r m s n (3 * i)) P [r - m, r, r + m] [s - n, s, s + n] (near r m s n (3 * i)) (i : Int) p1 p2 q1 q2 s1 s2) true
theorem row_end {i : Nat} (hi : i < 3) (next : AtRow r m s n p1 p2 q1 q2 s1 s2 (i + 1)) : AtPair r m s n p1 p2 q1 q2 s1 s2 i 3 := by
  intro P hP hl
  unfold AtRow at next
  rw [show 3 * (i + 1) = 3 * i + 3 by omega] at next
  refine Ev.step (h := fun j => L2_CongrDone.l1 j none none none (pairs (· + ·) r m s n (3 * i + 3)) (pairs (· - ·) r m s n (3 * i + 3)) P [r - m, r, r + m] [s - n, s, s + n] (near r m s n (3 * i + 3)) ((i + 1 : Nat) : Int) p1 p2 q1 q2 s1 s2) (fun j => ?_) (next P hP hl)
  simp only [L2_CongrDone.l2]
  rw [if_neg (by simp), w64 (n := (i : Int) + 1) (by omega) (by omega)]
  rfl
theorem row_start {i : Nat} (hi : i < 3) (next : AtPair r m s n p1 p2 q1 q2 s1 s2 i 0) : AtRow r m s n p1 p2 q1 q2 s1 s2 i := by
  intro P hP hl
  refine Ev.step (h := fun j => L2_CongrDone.l2 j none none none (pairs (· + ·) r m s n (3 * i)) (pairs (· - ·) r m s n (3 * i)) P [r - m, r, r + m] [s - n, s, s + n] (near r m s n (3 * i)) (i : Int) ((0 : Nat) : Int) p1 p2 q1 q2 s1 s2) (fun j => ?_) (next P hP hl)
  simp only [L2_CongrDone.l1]
  rw [if_pos (show (i : Int) < ([r - m, r, r + m].length : Int) by simp; omega)]
  rfl
theorem row_all (h : CV r m) (h' : CV s n) {i : Nat} (hi : i < 3) (next : AtRow r m s n p1 p2 q1 q2 s1 s2 (i + 1)) : AtRow r m s n p1 p2 q1 q2 s1 s2 i :=
  row_start hi (pair_step h h' hi (by omega) (pair_step h h' hi (by omega) (pair_step h h' hi (by omega) (row_end hi next))))
end
theorem xi_sub (r m : Int) (i : Nat) : xi r m i - xi r m 0 = (i : Int) * m := by unfold xi; rw [Int.sub_mul, Int.sub_mul]; omega
theorem sums_dvd {r m s n : Int} (d : Nat) : (∀ i k : Nat, i < 3 → k < 3 → (d : Int) ∣ (xi r m i + xi s n k) - (xi r m 0 + xi s n 0)) ↔ d ∣ Nat.gcd m.natAbs n.natAbs := by
  rw [Nat.dvd_gcd_iff, ← Int.ofNat_dvd_left, ← Int.ofNat_dvd_left]
  have e : ∀ i k : Nat, (xi r m i + xi s n k) - (xi r m 0 + xi s n 0) = (i : Int) * m + (k : Int) * n := fun i k => by rw [← xi_sub r m i, ← xi_sub s n k]; omega
  constructor
  · intro h
    have h1 := h 1 0 (by omega) (by omega)
    have h2 := h 0 1 (by omega) (by omega)
    rw [e] at h1 h2
    simp at h1 h2
    exact ⟨h1, h2⟩
  · rintro ⟨h1, h2⟩ i k _ _
    rw [e]
    exact Int.dvd_add (Int.dvd_trans h1 (Int.dvd_mul_left _ _)) (Int.dvd_trans h2 (Int.dvd_mul_left _ _))
theorem less_dvd {r m s n : Int} (d : Nat) : (∀ i k : Nat, i < 3 → k < 3 → (d : Int) ∣ (xi r m i - xi s n k) - (xi r m 0 - xi s n 0)) ↔ d ∣ Nat.gcd m.natAbs n.natAbs := by
  rw [Nat.dvd_gcd_iff, ← Int.ofNat_dvd_left, ← Int.ofNat_dvd_left]
  have e : ∀ i k : Nat, (xi r m i - xi s n k) - (xi r m 0 - xi s n 0) = (i : Int) * m - (k : Int) * n := fun i k => by rw [← xi_sub r m i, ← xi_sub s n k]; omega
  constructor
  · intro h
    have h1 := h 1 0 (by omega) (by omega)
    have h2 := h 0 1 (by omega) (by omega)
    rw [e] at h1 h2
    simp at h1 h2
    exact ⟨h1, h2⟩
  · rintro ⟨h1, h2⟩ i k _ _
    rw [e]
    exact Int.dvd_sub (Int.dvd_trans h1 (Int.dvd_mul_left _ _)) (Int.dvd_trans h2 (Int.dvd_mul_left _ _))
theorem xi_mul (r m s n : Int) (i k : Nat) : xi r m i * xi s n k = r * s + ((k : Int) - 1) * (n * r) + ((i : Int) - 1) * (m * s) + ((i : Int) - 1) * (((k : Int) - 1) * (m * n)) := by
  unfold xi
  generalize (i : Int) - 1 = a
  generalize (k : Int) - 1 = b
  rw [Int.add_mul, Int.mul_add, Int.mul_add]
  have e1 : r * (b * n) = b * (n * r) := by rw [Int.mul_left_comm, Int.mul_comm r n]
  have e2 : a * m * s = a * (m * s) := Int.mul_assoc _ _ _
  have e3 : a * m * (b * n) = a * (b * (m * n)) := by rw [Int.mul_assoc, Int.mul_left_comm m b n]
  rw [e1, e2, e3]
  omega
theorem products_dvd {r m s n : Int} (d : Nat) : (∀ i k : Nat, i < 3 → k < 3 → (d : Int) ∣ (xi r m i * xi s n k) - (xi r m 0 * xi s n 0)) ↔ d ∣ Nat.gcd (Nat.gcd (m * s).natAbs (n * r).natAbs) (m * n).natAbs := by
  rw [Nat.dvd_gcd_iff, Nat.dvd_gcd_iff, ← Int.ofNat_dvd_left, ← Int.ofNat_dvd_left, ← Int.ofNat_dvd_left]
  simp only [xi_mul]
  generalize m * s = A
  generalize n * r = B
  generalize m * n = C
  generalize r * s = D
  constructor
  · intro h
    have h1 := h 1 0 (by omega) (by omega)
    have h2 := h 0 1 (by omega) (by omega)
    have h3 := h 1 1 (by omega) (by omega)
    have e1 : D + (((0 : Nat) : Int) - 1) * B + (((1 : Nat) : Int) - 1) * A + (((1 : Nat) : Int) - 1) * ((((0 : Nat) : Int) - 1) * C) - (D + (((0 : Nat) : Int) - 1) * B + (((0 : Nat) : Int) - 1) * A + (((0 : Nat) : Int) - 1) * ((((0 : Nat) : Int) - 1) * C)) = A - C := by simp; omega
    have e2 : D + (((1 : Nat) : Int) - 1) * B + (((0 : Nat) : Int) - 1) * A + (((0 : Nat) : Int) - 1) * ((((1 : Nat) : Int) - 1) * C) - (D + (((0 : Nat) : Int) - 1) * B + (((0 : Nat) : Int) - 1) * A + (((0 : Nat) : Int) - 1) * ((((0 : Nat) : Int) - 1) * C)) = B - C := by simp; omega
    have e3 : D + (((1 : Nat) : Int) - 1) * B + (((1 : Nat) : Int) - 1) * A + (((1 : Nat) : Int) - 1) * ((((1 : Nat) : Int) - 1) * C) - (D + (((0 : Nat) : Int) - 1) * B + (((0 : Nat) : Int) - 1) * A + (((0 : Nat) : Int) - 1) * ((((0 : Nat) : Int) - 1) * C)) = A + B - C := by simp; omega
    rw [e1] at h1
    rw [e2] at h2
    rw [e3] at h3
    have hC : (d : Int) ∣ C := by
      have := Int.dvd_sub (Int.dvd_sub h3 h1) h2
      rwa [show A + B - C - (A - C) - (B - C) = C by omega] at this
    have hA := Int.dvd_add h1 hC
    have hB := Int.dvd_add h2 hC
    rw [show A - C + C = A by omega] at hA
    rw [show B - C + C = B by omega] at hB
    exact ⟨⟨hA, hB⟩, hC⟩
  · rintro ⟨⟨hA, hB⟩, hC⟩ i k _ _
    have t : ∀ x : Int, (d : Int) ∣ D + ((k : Int) - 1) * B + ((i : Int) - 1) * A + ((i : Int) - 1) * (((k : Int) - 1) * C) - x ↔ (d : Int) ∣ D - x := by
      intro x
      have q := Int.dvd_add (Int.dvd_add (Int.dvd_trans hB (Int.dvd_mul_left ((k : Int) - 1) B)) (Int.dvd_trans hA (Int.dvd_mul_left ((i : Int) - 1) A))) (Int.dvd_trans (Int.dvd_trans hC (Int.dvd_mul_left ((k : Int) - 1) C)) (Int.dvd_mul_left ((i : Int) - 1) _))
      constructor
      · intro z
        have := Int.dvd_sub z q
        rwa [show D + ((k : Int) - 1) * B + ((i : Int) - 1) * A + ((i : Int) - 1) * (((k : Int) - 1) * C) - x - (((k : Int) - 1) * B + ((i : Int) - 1) * A + ((i : Int) - 1) * (((k : Int) - 1) * C)) = D - x by omega] at this
      · intro z
        have := Int.dvd_add z q
        rwa [show D - x + (((k : Int) - 1) * B + ((i : Int) - 1) * A + ((i : Int) - 1) * (((k : Int) - 1) * C)) = D + ((k : Int) - 1) * B + ((i : Int) - 1) * A + ((i : Int) - 1) * (((k : Int) - 1) * C) - x by omega] at this
    rw [t]
    have := Int.dvd_sub (Int.dvd_add hB hA) hC
    rwa [show B + A - C = D - (D + (((0 : Nat) : Int) - 1) * B + (((0 : Nat) : Int) - 1) * A + (((0 : Nat) : Int) - 1) * ((((0 : Nat) : Int) - 1) * C)) by simp; omega] at this

/-! ### the law -/
theorem near_all {r m s n : Int} (h : near r m s n 9 = true) {i k : Nat} (hi : i < 3) (hk : k < 3) : (-1073741824 ≤ xi r m i ∧ xi r m i ≤ 1073741824) ∧ (-1073741824 ≤ xi s n k ∧ xi s n k ≤ 1073741824) := by
  unfold near at h
  have := List.all_eq_true.1 h (3 * i + k) (List.mem_range.2 (by omega))
  rw [show (3 * i + k) / 3 = i by omega, show (3 * i + k) % 3 = k by omega, Bool.and_eq_true, Bool.not_eq_true', Bool.not_eq_true', decide_eq_false_iff_not, decide_eq_false_iff_not] at this
  omega
theorem done_j3_ok {r m s n : Int} (h : CV r m) (h' : CV s n) :
    Ev (fun k => L2_CongrDone.j3 k 0 none none none r m s n (told (r + s) (Nat.gcd m.natAbs n.natAbs : Nat)).1 (told (r + s) (Nat.gcd m.natAbs n.natAbs : Nat)).2 (told (r - s) (Nat.gcd m.natAbs n.natAbs : Nat)).1 (told (r - s) (Nat.gcd m.natAbs n.natAbs : Nat)).2 (prod r m s n).1 (prod r m s n).2) true := by
  have a := h.bd
  have b := h'.bd
  have gm : ((Nat.gcd m.natAbs n.natAbs : Nat) : Int) ∣ m := Int.ofNat_dvd_left.2 (Nat.gcd_dvd_left _ _)
  have gn : ((Nat.gcd m.natAbs n.natAbs : Nat) : Int) ∣ n := Int.ofNat_dvd_left.2 (Nat.gcd_dvd_right _ _)
  refine Ev.step (h := fun k => (R2_FirstOf.f k r m 3).bind fun x => (R2_FirstOf.f k s n 3).bind fun y => L2_CongrDone.l1 k none none none [] [] [] x y true 0 (told (r + s) (Nat.gcd m.natAbs n.natAbs : Nat)).1 (told (r + s) (Nat.gcd m.natAbs n.natAbs : Nat)).2 (told (r - s) (Nat.gcd m.natAbs n.natAbs : Nat)).1 (told (r - s) (Nat.gcd m.natAbs n.natAbs : Nat)).2 (prod r m s n).1 (prod r m s n).2) (fun k => ?_) (.bind (first3 h) (.bind (first3 h') ?_))
  · simp only [L2_CongrDone.j3]
    rw [if_neg (by decide)]
  · have x0 : xi r m 0 = r - m := by unfold xi; simp; omega
    have y0 : xi s n 0 = s - n := by unfold xi; simp; omega
    have hA : Ev (fun k => R2_LeastOf.f k (pairs (· + ·) r m s n 9)) (told (r + s) ((Nat.gcd m.natAbs n.natAbs : Nat) : Int)) := by
      refine least_pairs (fun i k hi hk => ?_) (fun d => sums_dvd d) ?_
      · have := xi_bd h hi; have := xi_bd h' hk; omega
      · rw [x0, y0, show r - m + (s - n) - (r + s) = -(m + n) by omega]
        exact Int.dvd_neg.2 (Int.dvd_add gm gn)
    have hS : Ev (fun k => R2_LeastOf.f k (pairs (· - ·) r m s n 9)) (told (r - s) ((Nat.gcd m.natAbs n.natAbs : Nat) : Int)) := by
      refine least_pairs (fun i k hi hk => ?_) (fun d => less_dvd d) ?_
      · have := xi_bd h hi; have := xi_bd h' hk; omega
      · rw [x0, y0, show r - m - (s - n) - (r - s) = n - m by omega]
        exact Int.dvd_sub gn gm
    have hM : near r m s n 9 = true → Ev (fun k => R2_LeastOf.f k (pairs (· * ·) r m s n 9)) (prod r m s n) := by
      intro hn
      have n1 := near_all hn (i := 1) (k := 1) (by omega) (by omega)
      have n2 := near_all hn (i := 2) (k := 2) (by omega) (by omega)
      have x1 : xi r m 1 = r := by unfold xi; simp
      have y1 : xi s n 1 = s := by unfold xi; simp
      have x2 : xi r m 2 = r + m := by unfold xi; simp
      have y2 : xi s n 2 = s + n := by unfold xi; simp
      rw [x1, y1] at n1
      rw [x2, y2] at n2
      have m1 := mul_bd (a := m) (b := s) (A := 1048576) (B := 1073741824) (by omega) (by omega) (by omega) (by omega)
      have m2 := mul_bd (a := n) (b := r) (A := 1048576) (B := 1073741824) (by omega) (by omega) (by omega) (by omega)
      have m3 := mul_bd (a := m) (b := n) (A := 1048576) (B := 1048576) (by omega) (by omega) (by omega) (by omega)
      have m4 := mul_bd (a := r) (b := s) (A := 1073741824) (B := 1073741824) (by omega) (by omega) (by omega) (by omega)
      have hf : Fits r m s n := ⟨by omega, by omega, by omega, by omega⟩
      rw [prod, if_pos hf]
      refine least_pairs (fun i k hi hk => ?_) (fun d => products_dvd d) ?_
      · have q := near_all hn hi hk
        have := mul_bd (a := xi r m i) (b := xi s n k) (A := 1073741824) (B := 1073741824) (by omega) (by omega) (by omega) (by omega)
        omega
      · rw [xi_mul]
        have q1 : ((Nat.gcd (Nat.gcd (m * s).natAbs (n * r).natAbs) (m * n).natAbs : Nat) : Int) ∣ m * s := Int.ofNat_dvd_left.2 (Nat.dvd_trans (Nat.gcd_dvd_left _ _) (Nat.gcd_dvd_left _ _))
        have q2 : ((Nat.gcd (Nat.gcd (m * s).natAbs (n * r).natAbs) (m * n).natAbs : Nat) : Int) ∣ n * r := Int.ofNat_dvd_left.2 (Nat.dvd_trans (Nat.gcd_dvd_left _ _) (Nat.gcd_dvd_right _ _))
        have q3 : ((Nat.gcd (Nat.gcd (m * s).natAbs (n * r).natAbs) (m * n).natAbs : Nat) : Int) ∣ m * n := Int.ofNat_dvd_left.2 (Nat.gcd_dvd_right _ _)
        have := Int.dvd_sub (Int.dvd_sub q3 q2) q1
        generalize ((Nat.gcd (Nat.gcd (m * s).natAbs (n * r).natAbs) (m * n).natAbs : Nat) : Int) = G at this ⊢
        generalize m * s = A at this ⊢
        generalize n * r = B at this ⊢
        generalize m * n = C at this ⊢
        rwa [show r * s + (((0 : Nat) : Int) - 1) * B + (((0 : Nat) : Int) - 1) * A + (((0 : Nat) : Int) - 1) * ((((0 : Nat) : Int) - 1) * C) - r * s = C - B - A by simp; omega]
    have e := row_all (r := r) (m := m) (s := s) (n := n) h h' (i := 0) (by omega) (row_all h h' (by omega) (row_all h h' (by omega) (fun P hP _ => done_end hP hA hS hM)))
    exact e [] (fun _ => rfl) (by simp)
theorem done_j3_bad {r m s n : Int} (hc : cTwo r m s n ≠ none) : Ev (fun k => L2_CongrDone.j3 k (errN (cTwo r m s n)) (cTwo r m s n) (cTwo r m s n) (cTwo r m s n) r m s n 0 0 0 0 0 0) true := by
  obtain ⟨h1, h2⟩ := coded_two hc
  refine Ev.step (h := fun _ => some true) (fun k => ?_) .some
  simp only [L2_CongrDone.j3]
  rw [if_pos h2, isCongr_err hc]
  rfl
theorem done_l0 {r m c x8 a1 a2 a3 a4 a5 a6 : Int} {e1 e2 e3 : Option Int} {s n : Int} (h : CV r m) (hc1 : -1048576 ≤ c) (hc2 : c ≤ 1048576) (J : Ev (fun k => L2_CongrDone.j3 k x8 e1 e2 e3 r m s n a1 a2 a3 a4 a5 a6) true) :
    Ev (fun k => L2_CongrDone.l0 k c x8 e1 e2 e3 none [] [r - m, r, r + m] 0 r m s n a1 a2 a3 a4 a5 a6 (told (r * c) ((m * c).natAbs : Nat)).1 (told (r * c) ((m * c).natAbs : Nat)).2) true := by
  have a := h.bd
  have b1 := mul_bd (a := m) (b := c) (A := 1048576) (B := 1048576) (by omega) (by omega) (by omega) (by omega)
  have b2 := mul_bd (a := r) (b := c) (A := 1099511627776) (B := 1048576) (by omega) (by omega) (by omega) (by omega)
  have eL : c * (r - m) = r * c - m * c := by rw [Int.mul_sub, Int.mul_comm c r, Int.mul_comm c m]
  have eM : c * r = r * c := Int.mul_comm _ _
  have eR : c * (r + m) = r * c + m * c := by rw [Int.mul_add, Int.mul_comm c r, Int.mul_comm c m]
  generalize hT : told (r * c) ((m * c).natAbs : Nat) = T
  have hL : Ev (fun k => R2_LeastOf.f k [r * c - m * c, r * c, r * c + m * c]) T := by
    have := ev_LeastOf (l := [r * c - m * c, r * c, r * c + m * c]) (by simp) (by simp) (by
      intro k hk
      match k, hk with
      | 0, _ | 1, _ | 2, _ => simp; omega)
    have e : told ([r * c - m * c, r * c, r * c + m * c].getD 0 0) ((diffG [r * c - m * c, r * c, r * c + m * c] : Nat) : Int) = T := by
      rw [← hT]
      refine told_same (fun d => ?_) ?_
      · rw [dvd_diffG, ← Int.ofNat_dvd_left]
        simp only [List.forall_mem_cons, List.getD_cons_zero, List.not_mem_nil, false_implies, implies_true, and_true]
        generalize m * c = M
        generalize r * c = R
        constructor
        · rintro ⟨_, h1, _⟩
          rwa [show R - (R - M) = M by omega] at h1
        · intro h1
          refine ⟨by rw [Int.sub_self]; exact Int.dvd_zero _, by rwa [show R - (R - M) = M by omega], ?_⟩
          have := Int.dvd_add h1 h1
          rwa [show M + M = R + M - (R - M) by omega] at this
      · rw [List.getD_cons_zero, show r * c - m * c - r * c = -(m * c) by omega]
        exact Int.dvd_neg.2 (Int.natAbs_dvd.2 (Int.dvd_refl _))
    rwa [e] at this
  have s3 : Ev (fun k => L2_CongrDone.l0 k c x8 e1 e2 e3 none [r * c - m * c, r * c, r * c + m * c] [r - m, r, r + m] 3 r m s n a1 a2 a3 a4 a5 a6 T.1 T.2) true := by
    refine Ev.step (h := fun k => (R2_LeastOf.f k [r * c - m * c, r * c, r * c + m * c]).bind fun b => (L2_isCongr.f T.1 T.2 none b.1 b.2 0).bind fun t => if t = true then L2_CongrDone.j3 k x8 e1 e2 e3 r m s n a1 a2 a3 a4 a5 a6 else none) (fun k => ?_) (.bind hL (.bind (.of fun _ => isCongr_ok T) (.pos rfl J)))
    simp only [L2_CongrDone.l0]
    rw [if_neg (by simp)]
  have w0 : wrap64 ((0 : Int) + 1) = 1 := by unfold wrap64; omega
  have w1 : wrap64 ((1 : Int) + 1) = 2 := by unfold wrap64; omega
  have w2 : wrap64 ((2 : Int) + 1) = 3 := by unfold wrap64; omega
  have v0 : wrap64 (c * rd [r - m, r, r + m] 0) = r * c - m * c := by rw [show rd [r - m, r, r + m] 0 = r - m from rfl, eL, w64 (by omega) (by omega)]
  have v1 : wrap64 (c * rd [r - m, r, r + m] 1) = r * c := by rw [show rd [r - m, r, r + m] 1 = r from rfl, eM, w64 (by omega) (by omega)]
  have v2 : wrap64 (c * rd [r - m, r, r + m] 2) = r * c + m * c := by rw [show rd [r - m, r, r + m] 2 = r + m from rfl, eR, w64 (by omega) (by omega)]
  have s2 : Ev (fun k => L2_CongrDone.l0 k c x8 e1 e2 e3 none [r * c - m * c, r * c] [r - m, r, r + m] 2 r m s n a1 a2 a3 a4 a5 a6 T.1 T.2) true := by
    refine Ev.step (fun k => ?_) s3
    simp only [L2_CongrDone.l0, w2, v2]
    rw [if_pos (by simp), if_pos (by decide), if_pos (by simp)]
    rfl
  have s1 : Ev (fun k => L2_CongrDone.l0 k c x8 e1 e2 e3 none [r * c - m * c] [r - m, r, r + m] 1 r m s n a1 a2 a3 a4 a5 a6 T.1 T.2) true := by
    refine Ev.step (fun k => ?_) s2
    simp only [L2_CongrDone.l0, w1, v1]
    rw [if_pos (by simp), if_pos (by decide), if_pos (by simp)]
    rfl
  refine Ev.step (fun k => ?_) s1
  simp only [L2_CongrDone.l0, w0, v0]
  rw [if_pos (by simp), if_pos (by decide), if_pos (by simp)]
  rfl
theorem done_j1 {r m c x8 a1 a2 a3 a4 a5 a6 g1 g2 : Int} {e1 e2 e3 : Option Int} {s n : Int} (hS : (sErr r m c = none ∧ (g1, g2) = told (r * c) ((m * c).natAbs : Nat)) ∨ (sErr r m c ≠ none ∧ g1 = 0 ∧ g2 = 0)) (J : Ev (fun k => L2_CongrDone.j3 k x8 e1 e2 e3 r m s n a1 a2 a3 a4 a5 a6) true) :
    Ev (fun k => L2_CongrDone.j1 k c x8 e1 e2 e3 (sErr r m c) (errN (sErr r m c)) r m s n a1 a2 a3 a4 a5 a6 g1 g2) true := by
  rcases hS with ⟨h0, hg⟩ | ⟨h0, rfl, rfl⟩
  · rw [h0]
    have hv : CV r m ∧ -1048576 ≤ c ∧ c ≤ 1048576 := by
      unfold sErr at h0
      by_cases e : (cValid r m).isNone = true
      · rw [if_pos e] at h0
        by_cases f : c > 1048576 ∨ c < -1048576
        · rw [if_pos f] at h0; cases h0
        · exact ⟨cValid_none.1 (Option.isNone_iff_eq_none.1 e), by omega, by omega⟩
      · rw [if_neg e] at h0; rw [h0] at e; exact absurd rfl e
    obtain ⟨hv, c1, c2⟩ := hv
    have := done_l0 (s := s) (n := n) hv c1 c2 J
    rw [← hg] at this
    refine Ev.step (h := fun k => (R2_FirstOf.f k r m 3).bind fun x => L2_CongrDone.l0 k c x8 e1 e2 e3 none [] x 0 r m s n a1 a2 a3 a4 a5 a6 g1 g2) (fun k => ?_) (.bind (first3 hv) this)
    simp only [L2_CongrDone.j1]
    rw [if_neg (by decide)]
  · have hc : ∃ e : Int, (e = 2 ∨ e = 3) ∧ sErr r m c = some e := by
      unfold sErr at h0 ⊢
      by_cases e : (cValid r m).isNone = true
      · rw [if_pos e] at h0 ⊢
        by_cases f : c > 1048576 ∨ c < -1048576
        · rw [if_pos f]; exact ⟨2, .inl rfl, rfl⟩
        · rw [if_neg f] at h0; exact absurd rfl h0
      · rw [if_neg e]
        rcases cValid_cases r m with q | q | q
        · rw [q] at e; exact absurd rfl e
        · exact ⟨2, .inl rfl, q⟩
        · exact ⟨3, .inr rfl, q⟩
    obtain ⟨e, he, hc⟩ := hc
    rw [hc]
    have q : L2_isCongr.f 0 0 (some e) 0 0 e = some true := by
      unfold L2_isCongr.f
      rw [if_pos (by omega), coded_err he]
      rfl
    refine Ev.step (h := fun k => L2_CongrDone.j3 k x8 e1 e2 e3 r m s n a1 a2 a3 a4 a5 a6) (fun k => ?_) J
    simp only [L2_CongrDone.j1]
    rw [if_pos (show errN (some e) > 0 by simp only [errN, Option.getD_some]; omega), show errN (some e) = e from rfl, q]
    rfl
theorem pure_CongrDone (r m s n c : Int) : Ev (fun k => L2_CongrDone.f k r m s n c) true := by
  have hS : ∃ g1 g2 : Int, Ev (fun k => congr_Scale.f k r m c) (g1, g2, sErr r m c) ∧ ((sErr r m c = none ∧ (g1, g2) = told (r * c) ((m * c).natAbs : Nat)) ∨ (sErr r m c ≠ none ∧ g1 = 0 ∧ g2 = 0)) := by
    by_cases h0 : sErr r m c = none
    · have h1 := h0
      unfold sErr at h1
      by_cases e : (cValid r m).isNone = true
      · rw [if_pos e] at h1
        by_cases f : c > 1048576 ∨ c < -1048576
        · rw [if_pos f] at h1; cases h1
        · have := ev_Scale c (cValid_none.1 (Option.isNone_iff_eq_none.1 e)) (by omega) (by omega)
          rw [h0]
          exact ⟨_, _, this, .inl ⟨rfl, rfl⟩⟩
      · rw [if_neg e] at h1; rw [h1] at e; exact absurd rfl e
    · exact ⟨0, 0, ev_Scale_bad h0, .inr ⟨h0, rfl, rfl⟩⟩
  obtain ⟨g1, g2, hS, hg⟩ := hS
  have fin : ∀ {x8 a1 a2 a3 a4 a5 a6 : Int} {e1 e2 e3 : Option Int}, Ev (fun k => L2_CongrDone.j3 k x8 e1 e2 e3 r m s n a1 a2 a3 a4 a5 a6) true →
      Ev (fun k => (R2_CongrError.f k r m).bind fun t => if t = 0 then ((R2_Far.f c 1048576).bind fun t2 => L2_CongrDone.j0 k c x8 e1 e2 e3 (sErr r m c) t t2 r m s n a1 a2 a3 a4 a5 a6 g1 g2) else L2_CongrDone.j0 k c x8 e1 e2 e3 (sErr r m c) t false r m s n a1 a2 a3 a4 a5 a6 g1 g2) true := by
    intro x8 a1 a2 a3 a4 a5 a6 e1 e2 e3 J
    have j1 := done_j1 (c := c) hg J
    refine .bind (ev_CongrError r m) ?_
    have j0 : ∀ (x : Int) (b : Bool), errN (sErr r m c) = (if b = true then 2 else x) → Ev (fun k => L2_CongrDone.j0 k c x8 e1 e2 e3 (sErr r m c) x b r m s n a1 a2 a3 a4 a5 a6 g1 g2) true := by
      intro x b hb
      refine Ev.step (h := fun k => L2_CongrDone.j1 k c x8 e1 e2 e3 (sErr r m c) (errN (sErr r m c)) r m s n a1 a2 a3 a4 a5 a6 g1 g2) (fun k => ?_) j1
      rw [hb]
      cases b <;> simp [L2_CongrDone.j0]
    rcases cValid_cases r m with e | e | e
    · rw [e]
      refine .pos rfl (.bind (.of fun _ => far_k (n := 1048576) (by omega) c) (j0 _ _ ?_))
      unfold sErr
      rw [e]
      by_cases f : c > 1048576 ∨ c < -1048576
      · simp [f, errN]
      · simp [f, errN]
    · rw [e]
      refine .neg (by decide) (j0 _ _ ?_)
      unfold sErr
      rw [e]
      rfl
    · rw [e]
      refine .neg (by decide) (j0 _ _ ?_)
      unfold sErr
      rw [e]
      rfl
  unfold L2_CongrDone.f
  refine .bind ev_sixth (.pos rfl (.bind (ev_TwoCongrs r m s n) ?_))
  simp only [L2_own.f, Option.bind_some]
  by_cases hc : cTwo r m s n = none
  · obtain ⟨h, h'⟩ := cTwo_none.1 hc
    refine .bind (ev_Add h h') (.bind (ev_Sub h h') (.bind (ev_Mul h h') (.bind hS ?_)))
    rw [hc]
    exact fin (done_j3_ok h h')
  · exact .bind (add_bad hc) (.bind (sub_bad hc) (.bind (mul_bad hc) (.bind hS (fin (done_j3_bad hc)))))
end Go.Proofs.Rcp
