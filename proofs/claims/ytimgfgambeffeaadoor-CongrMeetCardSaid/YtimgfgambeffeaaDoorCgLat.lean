/- Plain law: the CHINESE remainders as they are sought; what lies in a join, in a meet; sums and products in any order. -/
import Derived.Test.YtimgfgambeffeaaDoorCgEv
import Derived.KernelRfl
set_option linter.unusedVariables false
namespace Go.Proofs.Rcp
open Go.RowKit Go.Proofs.YtimgfgambeffeaaDoor.C Go.Proofs.YtimgfgambeffeaaDoorW.PrintWords Go.Proofs.YtimgfgambeffeaaDoorW.PrintMore

theorem inC_pos {r m n : Int} (h : m ≠ 0) : inC r m n = true ↔ n % m = r := by unfold inC; rw [if_neg h]; simp
theorem inC_zero {r n : Int} : inC r 0 n = true ↔ n = r := by unfold inC; simp
theorem within_pos {r m s n : Int} (h : n ≠ 0) : within r m s n = true ↔ n ∣ m ∧ r % n = s := by
  unfold within
  rw [if_neg h, Bool.and_eq_true, inC_pos h, beq_iff_eq, Int.dvd_iff_emod_eq_zero]
theorem within_zero {r m s : Int} : within r m s 0 = true ↔ r = s ∧ m = 0 := by unfold within; simp

theorem lcm_dvd {m n : Int} (hm : 1 ≤ m) (hn : 1 ≤ n) : m ∣ m / (Nat.gcd m.natAbs n.natAbs : Nat) * n ∧ n ∣ m / (Nat.gcd m.natAbs n.natAbs : Nat) * n ∧ 1 ≤ m / (Nat.gcd m.natAbs n.natAbs : Nat) * n := by
  obtain ⟨a, rfl⟩ : ∃ a : Nat, m = a := ⟨m.toNat, by omega⟩
  obtain ⟨b, rfl⟩ : ∃ b : Nat, n = b := ⟨n.toNat, by omega⟩
  simp only [Int.natAbs_natCast]
  have hg : 0 < Nat.gcd a b := Nat.gcd_pos_of_pos_left _ (by omega)
  have e : (a : Int) / (Nat.gcd a b : Nat) * b = ((a / Nat.gcd a b * b : Nat) : Int) := by rw [Int.natCast_mul, Int.natCast_ediv]
  rw [e]
  have e2 : a / Nat.gcd a b * b = a * (b / Nat.gcd a b) := by
    obtain ⟨q, hq⟩ := Nat.gcd_dvd_right a b
    have hq2 : b / Nat.gcd a b = q := Nat.div_eq_of_eq_mul_right hg hq
    obtain ⟨p, hp⟩ := Nat.gcd_dvd_left a b
    have hp2 : a / Nat.gcd a b = p := Nat.div_eq_of_eq_mul_right hg hp
    rw [hq2, hp2]
    calc p * b = p * (Nat.gcd a b * q) := by rw [← hq]
      _ = Nat.gcd a b * p * q := by rw [← Nat.mul_assoc, Nat.mul_comm p]
      _ = a * q := by rw [← hp]
  refine ⟨Int.natCast_dvd_natCast.2 ⟨_, e2⟩, Int.natCast_dvd_natCast.2 ⟨_, Nat.mul_comm _ _⟩, ?_⟩
  have h1 : 0 < a / Nat.gcd a b := Nat.div_pos (Nat.le_of_dvd (by omega) (Nat.gcd_dvd_left a b)) hg
  have h2 := Nat.mul_pos h1 (show 0 < b by omega)
  omega

/-- The seeking: from one number of the first on. -/
theorem seek {r m s n M : Int} (h : CV r m) (h' : CV s n) (hm : 1 ≤ m) (hn : 1 ≤ n) (hM : 0 ≤ M) {k0 : Nat} (hk : (k0 : Int) < n) (hit : n ∣ (r + k0 * m) - s) : ∀ (d j : Nat), j + d = k0 →
    ∃ x : Int, x % m = r ∧ x % n = s ∧ Ev (fun k => congr_Meet.l0 k M (r + j * m) r m s n) ((told x M).1, (told x M).2, true, none) := by
  have a := h.bd
  have b := h'.bd
  have hr : r % m = r := by
    have : 0 ≤ r ∧ r < m := by unfold CV at h; omega
    exact Int.emod_eq_of_lt this.1 this.2
  have hs : s % n = s := by
    have : 0 ≤ s ∧ s < n := by unfold CV at h'; omega
    exact Int.emod_eq_of_lt this.1 this.2
  intro d
  induction d with
  | zero =>
    intro j hj
    obtain rfl : j = k0 := by omega
    have e : (r + j * m) % n = s := by rw [Int.emod_eq_emod_iff_emod_sub_eq_zero.2 (Int.emod_eq_zero_of_dvd hit), hs]
    refine ⟨r + j * m, by rw [Int.add_mul_emod_self_right, hr], e, ?_⟩
    refine Ev.step (h := fun k => (congr_Has.f k s n (r + j * m)).bind fun t => if t = true then ((congr_told.f k (r + j * m) M).bind fun b => some (b.1, b.2, true, none)) else congr_Meet.l0 k M (wrap64 (r + j * m + m)) r m s n) (fun k => by simp only [congr_Meet.l0]) ?_
    refine .bind (ev_Has _ h') ?_
    rw [(inC_pos (by omega)).2 e]
    simp only [if_true]
    exact .bind (ev_told _ hM) .some
  | succ d ih =>
    intro j hj
    have hjm : (0 : Int) ≤ j * m ∧ (j : Int) * m ≤ 1099511627776 := by
      refine ⟨Int.mul_nonneg (by omega) (by omega), ?_⟩
      calc (j : Int) * m ≤ 1048576 * 1048576 := Int.mul_le_mul (by omega) (by omega) (by omega) (by omega)
        _ = 1099511627776 := by decide
    by_cases e : (r + j * m) % n = s
    · refine ⟨r + j * m, by rw [Int.add_mul_emod_self_right, hr], e, ?_⟩
      refine Ev.step (h := fun k => (congr_Has.f k s n (r + j * m)).bind fun t => if t = true then ((congr_told.f k (r + j * m) M).bind fun b => some (b.1, b.2, true, none)) else congr_Meet.l0 k M (wrap64 (r + j * m + m)) r m s n) (fun k => by simp only [congr_Meet.l0]) ?_
      refine .bind (ev_Has _ h') ?_
      rw [(inC_pos (by omega)).2 e]
      simp only [if_true]
      exact .bind (ev_told _ hM) .some
    · obtain ⟨x, h1, h2, h3⟩ := ih (j + 1) (by omega)
      refine ⟨x, h1, h2, ?_⟩
      refine Ev.step (h := fun k => (congr_Has.f k s n (r + j * m)).bind fun t => if t = true then ((congr_told.f k (r + j * m) M).bind fun b => some (b.1, b.2, true, none)) else congr_Meet.l0 k M (wrap64 (r + j * m + m)) r m s n) (fun k => by simp only [congr_Meet.l0]) ?_
      refine .bind (ev_Has _ h') ?_
      have hb : inC s n (r + j * m) = false := by rw [← Bool.not_eq_true, inC_pos (by omega)]; exact e
      rw [hb]
      simp only [Bool.false_eq_true, if_false]
      rw [w64 (by omega) (by omega)]
      have e2 : r + (j : Int) * m + m = r + ((j + 1 : Nat) : Int) * m := by rw [Int.natCast_add, Int.add_mul]; omega
      rw [e2]
      exact h3

theorem ev_one (r m : Int) (b : Bool) : congr_one.f r m b = if b = true then some (r, m, true, none) else some (0, 0, false, none) := rfl
theorem ev_Meet_a {r s n : Int} (h : CV r 0) (h' : CV s n) : Ev (fun k => congr_Meet.f k r 0 s n) (if inC s n r = true then (r, 0, true, none) else (0, 0, false, none)) := by
  unfold congr_Meet.f
  refine .bind (ev_two_ok h h') ?_
  simp only [Option.isNone_none, if_true, ev_one]
  refine .bind (ev_Has r h') ?_
  cases inC s n r
  · simp only [Bool.false_eq_true, if_false, Option.bind_some]; exact .some
  · simp only [if_true, Option.bind_some]; exact .some
theorem ev_Meet_b {r m s : Int} (h : CV r m) (hm : m ≠ 0) (h' : CV s 0) : Ev (fun k => congr_Meet.f k r m s 0) (if inC r m s = true then (s, 0, true, none) else (0, 0, false, none)) := by
  unfold congr_Meet.f
  refine .bind (ev_two_ok h h') ?_
  simp only [Option.isNone_none, if_true, if_neg hm, ev_one]
  refine .bind (ev_Has s h) ?_
  cases inC r m s
  · simp only [Bool.false_eq_true, if_false, Option.bind_some]; exact .some
  · simp only [if_true, Option.bind_some]; exact .some
/-- Where both have a modulus. -/
theorem ev_Meet_none {r m s n : Int} (h : CV r m) (hm : m ≠ 0) (h' : CV s n) (hn : n ≠ 0) (hd : ¬ ((Nat.gcd m.natAbs n.natAbs : Nat) : Int) ∣ r - s) : Ev (fun k => congr_Meet.f k r m s n) (0, 0, false, none) := by
  have a := h.bd
  have b := h'.bd
  have hg : 0 < Nat.gcd m.natAbs n.natAbs := Nat.gcd_pos_of_pos_left _ (by omega)
  unfold congr_Meet.f
  refine .bind (ev_two_ok h h') ?_
  simp only [Option.isNone_none, if_true, if_neg hm, if_neg hn]
  refine .bind (ev_gcd2 (by omega) (by omega)) ?_
  rw [w64 (by omega) (by omega)]
  have e1 : ¬ ((Nat.gcd m.natAbs n.natAbs : Nat) : Int) = 0 := by omega
  simp only [if_neg e1, if_neg (fun q => hd (tmod_dvd.1 q))]
  exact .some
theorem ev_Meet_both {r m s n : Int} (h : CV r m) (hm : m ≠ 0) (h' : CV s n) (hn : n ≠ 0) (hd : ((Nat.gcd m.natAbs n.natAbs : Nat) : Int) ∣ r - s) :
    (m / (Nat.gcd m.natAbs n.natAbs : Nat) * n > 1048576 ∧ Ev (fun k => congr_Meet.f k r m s n) (r, m, true, none)) ∨
    (m / (Nat.gcd m.natAbs n.natAbs : Nat) * n ≤ 1048576 ∧ ∃ x, x % m = r ∧ x % n = s ∧ Ev (fun k => congr_Meet.f k r m s n) (x % (m / (Nat.gcd m.natAbs n.natAbs : Nat) * n), m / (Nat.gcd m.natAbs n.natAbs : Nat) * n, true, none)) := by
  have a := h.bd
  have b := h'.bd
  have hg : 0 < Nat.gcd m.natAbs n.natAbs := Nat.gcd_pos_of_pos_left _ (by omega)
  have L := lcm_dvd (m := m) (n := n) (by omega) (by omega)
  have e1 : ¬ ((Nat.gcd m.natAbs n.natAbs : Nat) : Int) = 0 := by omega
  have q1 : m / (Nat.gcd m.natAbs n.natAbs : Nat) ≤ m := Int.ediv_le_self _ (by omega)
  have q0 : 0 ≤ m / (Nat.gcd m.natAbs n.natAbs : Nat) := Int.ediv_nonneg (by omega) (by omega)
  have q2 : m / (Nat.gcd m.natAbs n.natAbs : Nat) * n ≤ 1048576 * 1048576 := Int.mul_le_mul (by omega) (by omega) (by omega) (by omega)
  have unf : ∀ res, Ev (fun k => if m / (Nat.gcd m.natAbs n.natAbs : Nat) * n > 1048576 then some (r, m, true, none) else congr_Meet.l0 k (m / (Nat.gcd m.natAbs n.natAbs : Nat) * n) r r m s n) res → Ev (fun k => congr_Meet.f k r m s n) res := by
    intro res hres
    unfold congr_Meet.f
    refine .bind (ev_two_ok h h') ?_
    simp only [Option.isNone_none, if_true, if_neg hm, if_neg hn]
    refine .bind (ev_gcd2 (by omega) (by omega)) ?_
    rw [w64 (n := r - s) (by omega) (by omega), Int.tdiv_eq_ediv_of_nonneg (by omega)]
    rw [w64 (n := m / (Nat.gcd m.natAbs n.natAbs : Nat)) (by omega) (by omega), w64 (n := m / (Nat.gcd m.natAbs n.natAbs : Nat) * n) (by omega) (by omega)]
    simp only [if_neg e1, if_pos (tmod_dvd.2 hd)]
    exact hres
  by_cases hM : m / (Nat.gcd m.natAbs n.natAbs : Nat) * n > 1048576
  · refine .inl ⟨hM, unf _ ?_⟩
    simp only [if_pos hM]
    exact .some
  · refine .inr ⟨by omega, ?_⟩
    have hd' : ((Nat.gcd m.natAbs n.natAbs : Nat) : Int) ∣ s - r := by
      have := Int.dvd_neg.2 hd
      rwa [Int.neg_sub] at this
    have eN : (n.natAbs : Int) = n := by omega
    have eM : (m.natAbs : Int) = m := by omega
    obtain ⟨k0, hk, hit⟩ := Rcn.crt (m := m.natAbs) (n := n.natAbs) (by omega) hd'
    rw [eM, eN] at hit
    obtain ⟨x, h1, h2, h3⟩ := seek h h' (by omega) (by omega) (M := m / (Nat.gcd m.natAbs n.natAbs : Nat) * n) (by omega) (k0 := k0) (by omega) hit k0 0 (by omega)
    rw [told_pos (by omega) (by omega)] at h3
    refine ⟨x, h1, h2, unf _ ?_⟩
    simp only [if_neg hM]
    simpa using h3

/-! ### what lies where -/
theorem join_within {r m s n : Int} (h : CV r m) (h' : CV s n) (g : Nat) (hg : g = Nat.gcd (Nat.gcd m.natAbs n.natAbs) (r - s).natAbs) :
    within r m (told r g).1 (told r g).2 = true ∧ within s n (told r g).1 (told r g).2 = true := by
  have a := h.bd
  have b := h'.bd
  have d0 := Nat.gcd_dvd_left (Nat.gcd m.natAbs n.natAbs) (r - s).natAbs
  have d1 : (g : Int) ∣ m := by rw [hg]; exact Int.ofNat_dvd_left.2 (Nat.dvd_trans d0 (Nat.gcd_dvd_left _ _))
  have d2 : (g : Int) ∣ n := by rw [hg]; exact Int.ofNat_dvd_left.2 (Nat.dvd_trans d0 (Nat.gcd_dvd_right _ _))
  have d3 : (g : Int) ∣ r - s := by rw [hg]; exact Int.ofNat_dvd_left.2 (Nat.gcd_dvd_right _ _)
  by_cases hb : (g : Int) > 1048576
  · rw [told_big hb]
    simp only [within_pos (show (1 : Int) ≠ 0 by decide), Int.one_dvd, Int.emod_one, and_self]
  · rcases Nat.eq_zero_or_pos g with h0 | h0
    · subst h0
      have e1 := Int.zero_dvd.1 d1
      have e2 := Int.zero_dvd.1 d2
      have e3 := Int.zero_dvd.1 d3
      rw [show ((0 : Nat) : Int) = 0 from rfl, told_one (by omega) (by omega)]
      exact ⟨within_zero.2 ⟨rfl, e1⟩, within_zero.2 ⟨by omega, e2⟩⟩
    · rw [told_pos (by omega) (by omega)]
      have hne : (g : Int) ≠ 0 := by omega
      refine ⟨(within_pos hne).2 ⟨d1, rfl⟩, (within_pos hne).2 ⟨d2, ?_⟩⟩
      exact (Int.emod_eq_emod_iff_emod_sub_eq_zero.2 (Int.emod_eq_zero_of_dvd d3)).symm
theorem self_within {r m : Int} (h : CV r m) : within r m r m = true := by
  by_cases h0 : m = 0
  · subst h0; exact within_zero.2 ⟨rfl, rfl⟩
  · refine (within_pos h0).2 ⟨Int.dvd_refl _, ?_⟩
    have : 0 ≤ r ∧ r < m := by unfold CV at h; omega
    exact Int.emod_eq_of_lt this.1 this.2
theorem prod_comm (r m s n : Int) : prod r m s n = prod s n r m := by
  have f : Fits r m s n ↔ Fits s n r m := by
    unfold Fits
    rw [Int.mul_comm n m, Int.mul_comm s r]
    exact ⟨fun h => ⟨h.2.1, h.1, h.2.2.1, h.2.2.2⟩, fun h => ⟨h.2.1, h.1, h.2.2.1, h.2.2.2⟩⟩
  unfold prod
  by_cases h : Fits r m s n
  · rw [if_pos h, if_pos (f.1 h), Int.mul_comm s r, Int.mul_comm n m, Nat.gcd_comm (n * r).natAbs]
  · rw [if_neg h, if_neg (fun q => h (f.2 q))]
theorem less_self {r m : Int} (h : CV r m) : inC (told (r - r) (Nat.gcd m.natAbs m.natAbs : Nat)).1 (told (r - r) (Nat.gcd m.natAbs m.natAbs : Nat)).2 0 = true := by
  have a := h.bd
  rw [Int.sub_self, Nat.gcd_self]
  have e : ((m.natAbs : Nat) : Int) = m := by omega
  rw [e]
  by_cases h0 : m = 0
  · subst h0; rw [told_one (by omega) (by omega)]; exact inC_zero.2 rfl
  · rw [told_pos (by omega) (by omega)]; exact (inC_pos h0).2 rfl
theorem prod_valid (r m s n : Int) : CV (prod r m s n).1 (prod r m s n).2 := by
  unfold prod
  split
  · exact told_valid _ (by omega)
  · exact .inr (by decide)
theorem ev_sixth : Ev (fun k => L2_sixth.f k) true := Ev.mono (k := 20) (fun k r h => L2_sixth.mono k r h) (by kernel_rfl)
end Go.Proofs.Rcp
