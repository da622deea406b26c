/- Plain law: the law 'CongrMeet' as it is printed is true, whatever it is given. -/
import Derived.Test.YtimgfgambeffeaaDoorCgRef
import Derived.Test.YtimgfgambeffeaaDoorCgLat
import Derived.Test.YtimgfgambeffeaaDoorC11
set_option linter.unusedVariables false
namespace Go.Proofs.Rcp
open Go.RowKit Go.Proofs.Rcg Go.Proofs.YtimgfgambeffeaaDoor.C Go.Proofs.YtimgfgambeffeaaDoorW.PrintWords Go.Proofs.YtimgfgambeffeaaDoorW.PrintMore

theorem lcm_of {m n z : Int} (hm : 1 ≤ m) (hn : 1 ≤ n) (h1 : m ∣ z) (h2 : n ∣ z) : m / (Nat.gcd m.natAbs n.natAbs : Nat) * n ∣ z := by
  obtain ⟨a, rfl⟩ : ∃ a : Nat, m = a := ⟨m.toNat, by omega⟩
  obtain ⟨b, rfl⟩ : ∃ b : Nat, n = b := ⟨n.toNat, by omega⟩
  simp only [Int.natAbs_natCast]
  have e : (a : Int) / (Nat.gcd a b : Nat) * b = ((a / Nat.gcd a b * b : Nat) : Int) := by rw [Int.natCast_mul, Int.natCast_ediv]
  rw [e, Int.ofNat_dvd_left]
  have e2 : a / Nat.gcd a b * b = Nat.lcm a b := by rw [Nat.lcm, Nat.div_mul_right_comm (Nat.gcd_dvd_left a b)]
  rw [e2]
  exact Nat.lcm_dvd (Int.ofNat_dvd_left.1 h1) (Int.ofNat_dvd_left.1 h2)

/-- The numbers of both, of the first so many of the one. -/
def sols (r m s n : Int) (j : Nat) : List Int := ((List.range j).map fun k : Nat => r + (k : Int) * m).filter (inC s n)
theorem sols_succ (r m s n : Int) (j : Nat) : sols r m s n (j + 1) = if inC s n (r + (j : Int) * m) = true then sols r m s n j ++ [r + (j : Int) * m] else sols r m s n j := by
  unfold sols
  rw [List.range_succ, List.map_append, List.filter_append, List.map_singleton]
  split
  · rename_i h; simp [h]
  · rename_i h; simp [h]
theorem mem_sols {r m s n x : Int} {j : Nat} : x ∈ sols r m s n j ↔ ∃ k : Nat, k < j ∧ x = r + (k : Int) * m ∧ inC s n x = true := by
  unfold sols
  rw [List.mem_filter, List.mem_map]
  constructor
  · rintro ⟨⟨k, hk, rfl⟩, h⟩
    exact ⟨k, List.mem_range.1 hk, rfl, h⟩
  · rintro ⟨k, hk, rfl, h⟩
    exact ⟨⟨k, List.mem_range.2 hk, rfl⟩, h⟩
theorem sols_length (r m s n : Int) (j : Nat) : (sols r m s n j).length ≤ j := by
  unfold sols
  refine Nat.le_trans (List.length_filter_le _ _) ?_
  simp

/-- What stands behind the loop. -/
def fin (x8 : Bool) (x9 : Option Int) (r m n p q : Int) (k : Nat) (L : List Int) : Option Bool := if (L.length : Int) = 0 then (if x9.isNone = true then (if x8 = true then (none) else (some (p == 0 && (q == 0)))) else (none)) else ((R2_LeastOf.f k L).bind fun bt => (if (bt.1 == 0 && (bt.2 == 1)) = true then (if m = 1 then (if n = 1 then (if x8 = true then ((L2_isCongr.f p q x9 bt.1 bt.2 0).bind fun t => (some t)) else (none)) else (if x8 = true then ((L2_isCongr.f p q x9 r m 0).bind fun t => (some t)) else (none))) else (if x8 = true then ((L2_isCongr.f p q x9 r m 0).bind fun t => (some t)) else (none))) else (if x8 = true then ((L2_isCongr.f p q x9 bt.1 bt.2 0).bind fun t => (some t)) else (none))))
theorem meet_l0 {x8 : Bool} {x9 : Option Int} {r m s n p q : Int} (h : CV r m) (h' : CV s n) (hm : 1 ≤ m ∧ m ≤ 2000) (hn : 1 ≤ n ∧ n ≤ 2000) {N : Nat} (hN : (N : Int) = 2 * n + 1) (hf : Ev (fun k => fin x8 x9 r m n p q k (sols r m s n N)) true) :
    ∀ (d j : Nat), j + d = N → Ev (fun k => L2_CongrMeet.l0 k x8 x9 (sols r m s n j) (j : Int) r m s n p q) true := by
  have a := h.bd
  have e2 : wrap64 (2 * n) = 2 * n := w64 (by omega) (by omega)
  intro d
  induction d with
  | zero =>
    intro j hj
    obtain rfl : j = N := by omega
    refine Ev.step (h := fun k => fin x8 x9 r m n p q k (sols r m s n j)) (fun k => ?_) hf
    simp only [L2_CongrMeet.l0]
    rw [e2, if_neg (by omega)]
    rfl
  | succ d ih =>
    intro j hj
    have hjm : (0 : Int) ≤ j * m ∧ (j : Int) * m ≤ 8002000 := by
      refine ⟨Int.mul_nonneg (by omega) (by omega), ?_⟩
      calc (j : Int) * m ≤ 4001 * 2000 := Int.mul_le_mul (by omega) (by omega) (by omega) (by omega)
        _ = 8002000 := by decide
    have hl := sols_length r m s n j
    refine Ev.step (h := fun k => L2_CongrMeet.l0 k x8 x9 (sols r m s n (j + 1)) ((j + 1 : Nat) : Int) r m s n p q) (fun k => ?_) (ih (j + 1) (by omega))
    simp only [L2_CongrMeet.l0]
    rw [e2, if_pos (by omega), w64 (n := (j : Int) * m) (by omega) (by omega), w64 (n := r + (j : Int) * m) (by omega) (by omega), w64 (n := (j : Int) + 1) (by omega) (by omega), leaves_c _ h' (by omega) (by omega), Option.bind_some, if_pos (show (sols r m s n j).length < 17592186044416 by omega), sols_succ]
    split <;> rfl
theorem zero_mem {l : List Int} (h : l ≠ []) : l.getD 0 0 ∈ l := by
  cases l with
  | nil => exact absurd rfl h
  | cons x l => simp
theorem meet_fin {r m s n p q : Int} {x8 : Bool} {x9 : Option Int} (h : CV r m) (h' : CV s n) (hm : 1 ≤ m ∧ m ≤ 2000) (hn : 1 ≤ n ∧ n ≤ 2000) {N : Nat} (hN : (N : Int) = 2 * n + 1) (hM : Ev (fun k => congr_Meet.f k r m s n) (p, q, x8, x9)) :
    Ev (fun k => fin x8 x9 r m n p q k (sols r m s n N)) true := by
  have a := h.bd
  have b := h'.bd
  have uniq : ∀ {v w : Int × Int × Bool × Option Int}, Ev (fun k => congr_Meet.f k r m s n) v → Ev (fun k => congr_Meet.f k r m s n) w → v = w := by
    rintro v w ⟨K, hK⟩ ⟨J, hJ⟩
    have h1 := hK (K + J) (by omega)
    have h2 := hJ (K + J) (by omega)
    exact Option.some.inj (h1.symm.trans h2)
  have hs : s % n = s := by rcases h'.mod with z | z <;> omega
  have hr : r % m = r := by rcases h.mod with z | z <;> omega
  have hit : ∀ {x : Int}, inC s n x = true ↔ n ∣ x - s := by
    intro x
    rw [inC_pos (by omega), Int.dvd_iff_emod_eq_zero, ← Int.emod_eq_emod_iff_emod_sub_eq_zero, hs]
  have eN : (n.natAbs : Int) = n := by omega
  have eM : (m.natAbs : Int) = m := by omega
  have gm : ((Nat.gcd m.natAbs n.natAbs : Nat) : Int) ∣ m := Int.ofNat_dvd_left.2 (Nat.gcd_dvd_left _ _)
  have gn : ((Nat.gcd m.natAbs n.natAbs : Nat) : Int) ∣ n := Int.ofNat_dvd_left.2 (Nat.gcd_dvd_right _ _)
  by_cases hd : ((Nat.gcd m.natAbs n.natAbs : Nat) : Int) ∣ r - s
  · -- some
    have L := lcm_dvd (m := m) (n := n) (by omega) (by omega)
    generalize hMM : m / (Nat.gcd m.natAbs n.natAbs : Nat) * n = M at L
    have hlcm : ∀ {z : Int}, m ∣ z → n ∣ z → M ∣ z := fun {z} h1 h2 => by rw [← hMM]; exact lcm_of (by omega) (by omega) h1 h2
    have hd' : ((Nat.gcd m.natAbs n.natAbs : Nat) : Int) ∣ s - r := by
      have := Int.dvd_neg.2 hd
      rwa [Int.neg_sub] at this
    obtain ⟨k0, hk, hk0⟩ := Rcn.crt (m := m.natAbs) (n := n.natAbs) (by omega) hd'
    rw [eM, eN] at hk0
    obtain ⟨c, hc⟩ := L.1
    have hc1 : c ≤ n := by
      have q1 : m / (Nat.gcd m.natAbs n.natAbs : Nat) ≤ m := Int.ediv_le_self _ (by omega)
      have q2 : m * c ≤ m * n := by rw [← hc, ← hMM]; exact Int.mul_le_mul_of_nonneg_right q1 (by omega)
      exact Int.le_of_mul_le_mul_left q2 (by omega)
    have hc0 : 1 ≤ c := by
      refine Classical.byContradiction fun z => ?_
      have : m * c ≤ m * 0 := Int.mul_le_mul_of_nonneg_left (by omega) (by omega)
      omega
    have x0 : r + (k0 : Int) * m ∈ sols r m s n N := mem_sols.2 ⟨k0, by omega, rfl, hit.2 hk0⟩
    have x1 : r + (k0 : Int) * m + M ∈ sols r m s n N := by
      refine mem_sols.2 ⟨k0 + c.toNat, by omega, ?_, hit.2 ?_⟩
      · rw [hc, Int.natCast_add, Int.add_mul, Int.toNat_of_nonneg (by omega), Int.mul_comm m c]; omega
      · have := Int.dvd_add hk0 L.2.1
        rwa [show r + (k0 : Int) * m - s + M = r + (k0 : Int) * m + M - s by omega] at this
    have hne : sols r m s n N ≠ [] := fun z => by rw [z] at x0; cases x0
    have hmem := zero_mem hne
    have hlen : 0 < (sols r m s n N).length := List.length_pos_iff.2 hne
    have hdiff : ∀ {x y : Int}, x ∈ sols r m s n N → y ∈ sols r m s n N → M ∣ x - y := by
      intro x y hx hy
      obtain ⟨i, _, rfl, hi⟩ := mem_sols.1 hx
      obtain ⟨j, _, rfl, hj⟩ := mem_sols.1 hy
      refine hlcm ⟨(i : Int) - j, ?_⟩ ?_
      · rw [Int.mul_sub, Int.mul_comm m, Int.mul_comm m]; omega
      · have := Int.dvd_sub (hit.1 hi) (hit.1 hj)
        rwa [show r + (i : Int) * m - s - (r + (j : Int) * m - s) = r + (i : Int) * m - (r + (j : Int) * m) by omega] at this
    have hb : ∀ k, k < (sols r m s n N).length → -2305843009213693952 ≤ (sols r m s n N).getD k 0 ∧ (sols r m s n N).getD k 0 ≤ 2305843009213693952 := by
      intro k hk
      have : (sols r m s n N).getD k 0 ∈ sols r m s n N := by rw [List.getD_eq_getElem?_getD, List.getElem?_eq_getElem hk]; exact List.getElem_mem hk
      obtain ⟨i, hi, e, _⟩ := mem_sols.1 this
      have i0 : (0 : Int) ≤ i * m := Int.mul_nonneg (by omega) (by omega)
      have i1 : (i : Int) * m ≤ 4001 * 2000 := Int.mul_le_mul (by omega) (by omega) (by omega) (by omega)
      rw [e]
      omega
    have hl := sols_length r m s n N
    have hT : told ((sols r m s n N).getD 0 0) ((diffG (sols r m s n N) : Nat) : Int) = told (r + (k0 : Int) * m) M := by
      have eM2 : ((M.toNat : Nat) : Int) = M := Int.toNat_of_nonneg (by omega)
      rw [← eM2]
      refine told_same (fun d => ?_) ?_
      · have eD : d ∣ M.toNat ↔ (d : Int) ∣ M := ⟨fun z => by have := Int.natCast_dvd_natCast.2 z; rwa [eM2] at this, fun z => Int.natCast_dvd_natCast.1 (by rwa [eM2])⟩
        rw [dvd_diffG, eD]
        constructor
        · intro hx
          have := Int.dvd_sub (hx _ x1) (hx _ x0)
          rwa [show r + (k0 : Int) * m + M - (sols r m s n N).getD 0 0 - (r + (k0 : Int) * m - (sols r m s n N).getD 0 0) = M by omega] at this
        · intro hx x hx'
          exact Int.dvd_trans hx (hdiff hx' hmem)
      · rw [eM2]; exact hdiff hmem x0
    have hLL := ev_LeastOf (l := sols r m s n N) hlen (by omega) hb
    rw [hT] at hLL
    have B := ev_Meet_both h (by omega) h' (by omega) hd
    rw [hMM] at B
    rcases B with ⟨hbig, hMe⟩ | ⟨hsm, x, hx1, hx2, hMe⟩
    · have := uniq hM hMe
      simp only [Prod.mk.injEq] at this
      obtain ⟨rfl, rfl, rfl, rfl⟩ := this
      rw [told_big hbig] at hLL
      refine .neg (by omega) (.bind hLL (.of fun _ => ?_))
      have hc : L2_isCongr.f p q none p q 0 = some true := isCongr_ok (p, q)
      by_cases h1 : q = 1
      · by_cases h2 : n = 1
        · subst h1 h2
          exact absurd hbig (by rw [← hMM]; decide)
        · simp only [hc, if_pos h1, if_neg h2]; rfl
      · simp only [hc, if_neg h1]; rfl
    · have := uniq hM hMe
      simp only [Prod.mk.injEq] at this
      obtain ⟨rfl, rfl, rfl, rfl⟩ := this
      have hxx : x % q = (r + (k0 : Int) * m) % q := by
        refine Int.emod_eq_emod_iff_emod_sub_eq_zero.2 (Int.emod_eq_zero_of_dvd (hlcm ?_ ?_))
        · have : m ∣ x - r := Int.dvd_of_emod_eq_zero (Int.emod_eq_emod_iff_emod_sub_eq_zero.1 (by rw [hx1, hr]))
          have := Int.dvd_sub this (Int.dvd_mul_left k0 m)
          rwa [show x - r - (k0 : Int) * m = x - (r + (k0 : Int) * m) by omega] at this
        · have : n ∣ x - s := Int.dvd_of_emod_eq_zero (Int.emod_eq_emod_iff_emod_sub_eq_zero.1 (by rw [hx2, hs]))
          have := Int.dvd_sub this hk0
          rwa [show x - s - (r + (k0 : Int) * m - s) = x - (r + (k0 : Int) * m) by omega] at this
      rw [told_pos (by omega) hsm, ← hxx] at hLL
      refine .neg (by omega) (.bind hLL (.of fun _ => ?_))
      have hc : L2_isCongr.f (x % q) q none (x % q) q 0 = some true := isCongr_ok (x % q, q)
      dsimp only
      split
      · rename_i hz
        have hq : q = 1 := by simp only [Bool.and_eq_true, beq_iff_eq] at hz; exact hz.2
        subst hq
        have h1 : m = 1 := by have := Int.le_of_dvd (by decide) L.1; omega
        have h2 : n = 1 := by have := Int.le_of_dvd (by decide) L.2.1; omega
        rw [if_pos h1, if_pos h2, if_pos rfl, hc]
        rfl
      · rw [if_pos rfl, hc]
        rfl
  · -- none
    have := uniq hM (ev_Meet_none h (by omega) h' (by omega) hd)
    simp only [Prod.mk.injEq] at this
    obtain ⟨rfl, rfl, rfl, rfl⟩ := this
    have e : sols r m s n N = [] := by
      refine List.eq_nil_iff_forall_not_mem.2 fun x hx => hd ?_
      obtain ⟨i, _, rfl, hi⟩ := mem_sols.1 hx
      have := Int.dvd_sub (Int.dvd_trans gn (hit.1 hi)) (Int.dvd_trans gm (Int.dvd_mul_left (i : Int) m))
      rwa [show r + (i : Int) * m - s - (i : Int) * m = r - s by omega] at this
    rw [e]
    exact .of fun _ => rfl
theorem ev_Meet_bad {r m s n : Int} (h : cTwo r m s n ≠ none) : Ev (fun k => congr_Meet.f k r m s n) (0, 0, false, cTwo r m s n) := by
  unfold congr_Meet.f
  refine .bind ev_two_bad ?_
  obtain ⟨c, hc⟩ := Option.ne_none_iff_exists'.1 h
  rw [hc]
  exact .neg (by simp) .some
theorem meet_none {r m s n : Int} (h : CV r m) (h' : CV s n) : ∃ p q x8, Ev (fun k => congr_Meet.f k r m s n) (p, q, x8, none) := by
  by_cases h0 : m = 0
  · subst h0
    have := ev_Meet_a h h'
    split at this
    · exact ⟨_, _, _, this⟩
    · exact ⟨_, _, _, this⟩
  · by_cases h1 : n = 0
    · subst h1
      have := ev_Meet_b h h0 h'
      split at this
      · exact ⟨_, _, _, this⟩
      · exact ⟨_, _, _, this⟩
    · by_cases hd : ((Nat.gcd m.natAbs n.natAbs : Nat) : Int) ∣ r - s
      · rcases ev_Meet_both h h0 h' h1 hd with ⟨_, h⟩ | ⟨_, _, _, _, h⟩
        · exact ⟨_, _, _, h⟩
        · exact ⟨_, _, _, h⟩
      · exact ⟨_, _, _, ev_Meet_none h h0 h' h1 hd⟩
theorem pure_CongrMeet (r m s n : Int) : Ev (fun k => L2_CongrMeet.f k r m s n) true := by
  unfold L2_CongrMeet.f
  refine .bind ev_sixth (.pos rfl (.bind (ev_TwoCongrs r m s n) ?_))
  simp only [L2_own.f, Option.bind_some]
  by_cases hc2 : cTwo r m s n = none
  · rw [hc2]
    obtain ⟨h, h'⟩ := cTwo_none.1 hc2
    clear hc2
    have a := h.bd
    have b := h'.bd
    have j1 : ∀ (x8 : Bool) (p q c e d f : Int), (p, q, x8) = (if inC d f c = true then (c, e, true) else (0, 0, false)) → CV d f → -4611686018427387904 ≤ c → c ≤ 4611686018427387904 → Ev (fun k => L2_CongrMeet.j1 k x8 none p q c e d f) true := by
      intro x8 p q c e d f hx hc c1 c2
      refine Ev.step (h := fun _ => some true) (fun k => ?_) .some
      simp only [L2_CongrMeet.j1, leaves_c c hc c1 c2, Option.bind_some]
      by_cases hi : inC d f c = true
      · rw [if_pos hi] at hx ⊢
        simp only [Prod.mk.injEq] at hx
        obtain ⟨rfl, rfl, rfl⟩ := hx
        rw [if_pos rfl, isCongr_ok (p, q)]
        rfl
      · rw [if_neg hi] at hx ⊢
        simp only [Prod.mk.injEq] at hx
        obtain ⟨rfl, rfl, rfl⟩ := hx
        rfl
    by_cases h0 : m = 0
    · subst h0
      have hm := ev_Meet_a h h'
      generalize hv : (if inC s n r = true then ((r, 0, true, none) : Int × Int × Bool × Option Int) else (0, 0, false, none)) = v at hm
      obtain ⟨p, q, x8, x9⟩ := v
      refine .bind hm (.neg (by decide) (.pos rfl ?_))
      have hx : (p, q, x8) = (if inC s n r = true then (r, 0, true) else (0, 0, false)) ∧ x9 = none := by
        by_cases hi : inC s n r = true
        · rw [if_pos hi] at hv ⊢; simp only [Prod.mk.injEq] at hv; obtain ⟨rfl, rfl, rfl, rfl⟩ := hv; exact ⟨rfl, rfl⟩
        · rw [if_neg hi] at hv ⊢; simp only [Prod.mk.injEq] at hv; obtain ⟨rfl, rfl, rfl, rfl⟩ := hv; exact ⟨rfl, rfl⟩
      obtain ⟨hx, rfl⟩ := hx
      refine Ev.step (h := fun k => L2_CongrMeet.j1 k x8 none p q r 0 s n) (fun k => by simp only [L2_CongrMeet.j0, if_true]) ?_
      exact j1 _ _ _ _ _ _ _ hx h' (by omega) (by omega)
    · by_cases h1 : n = 0
      · subst h1
        have hm := ev_Meet_b h h0 h'
        generalize hv : (if inC r m s = true then ((s, 0, true, none) : Int × Int × Bool × Option Int) else (0, 0, false, none)) = v at hm
        obtain ⟨p, q, x8, x9⟩ := v
        refine .bind hm (.neg (by decide) (.neg h0 ?_))
        have hx : (p, q, x8) = (if inC r m s = true then (s, 0, true) else (0, 0, false)) ∧ x9 = none := by
          by_cases hi : inC r m s = true
          · rw [if_pos hi] at hv ⊢; simp only [Prod.mk.injEq] at hv; obtain ⟨rfl, rfl, rfl, rfl⟩ := hv; exact ⟨rfl, rfl⟩
          · rw [if_neg hi] at hv ⊢; simp only [Prod.mk.injEq] at hv; obtain ⟨rfl, rfl, rfl, rfl⟩ := hv; exact ⟨rfl, rfl⟩
        obtain ⟨hx, rfl⟩ := hx
        refine Ev.step (h := fun k => L2_CongrMeet.j1 k x8 none p q s 0 r m) (fun k => by simp only [L2_CongrMeet.j0, beq_self_eq_true, if_true, if_neg h0]) ?_
        exact j1 _ _ _ _ _ _ _ hx h (by omega) (by omega)
      · obtain ⟨p, q, x8, hm⟩ := meet_none h h'
        refine .bind hm (.neg (by decide) (.neg h0 ?_))
        have e0 : (n == 0) = false := by simpa using h1
        dsimp only
        rw [e0]
        have j2t : Ev (fun k => L2_CongrMeet.j2 k x8 none true r m s n p q) true := Ev.step (h := fun _ => some true) (fun k => by simp only [L2_CongrMeet.j2, if_true]; rfl) .some
        refine Ev.step (h := fun k => if m > 2000 then L2_CongrMeet.j2 k x8 none true r m s n p q else L2_CongrMeet.j2 k x8 none (decide (n > 2000)) r m s n p q) (fun k => by simp only [L2_CongrMeet.j0, Bool.false_eq_true, if_false]) ?_
        refine .ite (fun _ => j2t) (fun hm2 => ?_)
        by_cases hn2 : n > 2000
        · rw [decide_eq_true hn2]; exact j2t
        · rw [decide_eq_false hn2]
          refine Ev.step (h := fun k => L2_CongrMeet.l0 k x8 none [] 0 r m s n p q) (fun k => by simp only [L2_CongrMeet.j2, Bool.false_eq_true, if_false]) ?_
          have hN : (((2 * n + 1).toNat : Nat) : Int) = 2 * n + 1 := Int.toNat_of_nonneg (by omega)
          have e := meet_l0 h h' (by omega) (by omega) hN (meet_fin h h' (by omega) (by omega) hN hm) (2 * n + 1).toNat 0 (by omega)
          rw [show sols r m s n 0 = [] by simp [sols]] at e
          exact e
  · obtain ⟨h1, h2⟩ := coded_two hc2
    refine .bind (ev_Meet_bad hc2) (.pos h2 (.bind (.of fun _ => isCongr_err hc2) (.pos rfl .some)))
end Go.Proofs.Rcp
