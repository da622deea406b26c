/- Plain law: the law 'ZoneReached' as it is printed is true, whatever it is given. -/
import Derived.Test.YtjpboodkmhikpaaDoorPz
import Derived.Test.YtjpboodkmhikpaaDoorZ6
set_option linter.unusedVariables false
namespace Go.Proofs.Rcp
open Go.RowKit Go.Proofs.Rcg Go.Proofs.Rcn Go.Proofs.YtjpboodkmhikpaaDoor.Z Go.Proofs.YtjpboodkmhikpaaDoorW.PrintWords Go.Proofs.YtjpboodkmhikpaaDoorW.PrintMore

theorem guard_val {N : Int} {L : List Cel} {i j m : Int} (h : zErr N L = none) (h1 : 0 ≤ i) (h2 : i ≤ N) (h3 : 0 ≤ j) (h4 : j ≤ N) (hm : zfar m = false) {R : Int × List ZC × Bool} (hR : shutZ N (leastL L (i.toNat * (N + 1).toNat + j.toNat) true m) = R) :
    zone_Guard.f N (zces L) i j m = some (R.1, R.2.1, R.2.2, none) := by
  unfold zone_Guard.f
  rw [cels_zces, h]
  simp only
  rw [if_neg (by omega), hm, if_neg (by decide), hR]
theorem zfar_false {m : Int} : zfar m = false ↔ -1099511627776 ≤ m ∧ m ≤ 1099511627776 := by unfold zfar; rw [decide_eq_false_iff_not]; omega

theorem reached_j2 {N : Int} {l : List RC} {i j : Int} (hl : l.length ≤ 100) (hnear : Near 1048576 (rels l)) (h : zErr N (rels l) = none) {n : Nat} (hn : N + 1 = n) (hn1 : 1 ≤ n) (hn5 : n ≤ 5) (hlen : (rels l).length = n * n) (hf : Fine (Bd n (diag n (rels l))))
    (hi : 0 ≤ i ∧ i ≤ N) (hj : 0 ≤ j ∧ j ≤ N) : Ev (fun k => L2_ZoneReached.j2 k i j false N l N (zces (preFree n (rels l)))) true := by
  obtain ⟨p, rfl⟩ : ∃ p : Nat, i = p := ⟨i.toNat, by omega⟩
  obtain ⟨q, rfl⟩ : ∃ q : Nat, j = q := ⟨j.toNat, by omega⟩
  have hp : p < n := by omega
  have hq : q < n := by omega
  obtain ⟨hC, hclosed, hnearC⟩ := closeZ_near hn5 hlen (norm_of h) hnear (by decide) hf
  have P := free_path hlen hf
  have hidx := idx_lt hp hq
  have hlenC : (preFree n (rels l)).length = n * n := free_length' hlen
  have hx := idx64 (q := q) hn (by omega) hp hq
  have hcell := hnearC (p * n + q)
  have hbig : (1048576 * 4096 : Nat) = 4294967296 := by decide
  rw [hbig] at hcell
  have en : (N + 1).toNat = n := by omega
  have hz := ev_zoneOf (N := N) (l := l) (by omega)
  have nearM : ∀ c : Int, -8589934592 ≤ c → c ≤ 8589934592 → Near 1099511627776 (leastL (rels l) (q * n + p) true c) := fun c h1 h2 => near_least (near_mono hnear (by decide)) (fun _ => ⟨by omega, by omega⟩)
  have okG : ∀ c : Int, -8589934592 ≤ c → c ≤ 8589934592 → (∀ v, Path (Bd n (diag n (rels l))) p q v → 0 ≤ v + c) → ∃ C, zone_Guard.f N (zces (rels l)) (q : Int) (p : Int) c = some (N, C, true, none) := by
    intro c h1 h2 hc
    obtain ⟨C, e⟩ := least_some hn5 hlen hf hq hp (nearM c h1 h2) hc
    refine ⟨zces C, ?_⟩
    refine guard_val h (by omega) (by omega) (by omega) (by omega) (zfar_false.2 ⟨by omega, by omega⟩) (R := (N, zces C, true)) ?_
    rw [en, Int.toNat_natCast, Int.toNat_natCast]
    exact shutZ_some hn e
  refine Ev.step (fun k => by simp only [L2_ZoneReached.j2, Bool.false_eq_true, if_false, hx]; rfl) ?_
  refine .pos (by omega) (.pos (by rw [zces_length, hlenC]; exact_mod_cast hidx) ?_)
  rw [rdZ_cg]
  cases hh : (cg (preFree n (rels l)) (p * n + q)).has with
  | false =>
    refine .neg (by simp [zce, hh]) (.bind hz ?_)
    obtain ⟨C, hG⟩ := okG (-33554432) (by omega) (by omega) (fun v pv => by
      have := (P p q v).2 pv
      rw [this.2.2.1] at hh
      cases hh)
    rw [hG]
    refine .bind .some (.pos rfl (.pos rfl ?_))
    simp only [beq_self_eq_true]
    exact .some
  | true =>
    have low : ∀ v, Path (Bd n (diag n (rels l))) p q v → (cg (preFree n (rels l)) (p * n + q)).most ≤ v := fun v pv => ((P p q v).2 pv).2.2.2
    have reach : Path (Bd n (diag n (rels l))) p q (cg (preFree n (rels l)) (p * n + q)).most := (P p q _).1 ⟨hp, hq, hh, Int.le_refl _⟩
    generalize (cg (preFree n (rels l)) (p * n + q)) = c at hcell hh low reach ⊢
    obtain ⟨ch, m⟩ := c
    simp only at hcell hh low reach
    refine .pos (by show (zce _).f0 = true; exact hh) ?_
    show Ev (fun k => (L2_zoneOf.f k N l).bind fun bt183 => ((zone_Guard.f bt183.1 bt183.2 (q : Int) (p : Int) (wrap64 (-m))).bind fun bt187 => ((L2_zoneOf.f k N l).bind fun bt194 => ((zone_Guard.f bt194.1 bt194.2 (q : Int) (p : Int) (wrap64 ((wrap64 (-m)) - 1))).bind fun bt198 => (if bt187.2.2.2.isNone = true then (if bt187.2.2.1 = true then (if bt187.1 = N then (if bt198.2.2.2.isNone = true then (if bt198.2.2.1 = true then (none) else (some (bt198.1 == 0))) else (none)) else (none)) else (none)) else (none)))))) true
    rw [w64 (n := -m) (by omega) (by omega), w64 (n := -m - 1) (by omega) (by omega)]
    obtain ⟨C, hG⟩ := okG (-m) (by omega) (by omega) (fun v pv => by have := low v pv; omega)
    have hG2 : zone_Guard.f N (zces (rels l)) (q : Int) (p : Int) (-m - 1) = some (0, [], false, none) := by
      refine guard_val h (by omega) (by omega) (by omega) (by omega) (zfar_false.2 ⟨by omega, by omega⟩) (R := (0, [], false)) ?_
      rw [en, Int.toNat_natCast, Int.toNat_natCast]
      exact shutZ_none hn (least_none hn5 hlen hq hp (nearM _ (by omega) (by omega)) reach (by omega))
    refine .bind hz ?_
    rw [hG]
    refine .bind .some (.bind hz ?_)
    rw [hG2]
    exact .bind .some (.pos rfl (.pos rfl (.pos rfl (.pos rfl (.neg (by decide) .some)))))

theorem pure_ZoneReached (N : Int) (l : List RC) (i j : Int) : Ev (fun k => L2_ZoneReached.f k N l i j) true := by
  have skip : Ev (fun k => L2_ZoneReached.j0 k i j true true N l) true := Ev.step (h := fun _ => some true) (fun k => by simp only [L2_ZoneReached.j0, if_true]) .some
  have skip1 : ∀ M C, Ev (fun k => L2_ZoneReached.j1 k i j true N l M C) true := fun M C => Ev.step (h := fun _ => some true) (fun k => by simp only [L2_ZoneReached.j1, if_true]) .some
  have skip2 : ∀ M C, Ev (fun k => L2_ZoneReached.j2 k i j true N l M C) true := fun M C => Ev.step (h := fun _ => some true) (fun k => by simp only [L2_ZoneReached.j2, if_true]) .some
  unfold L2_ZoneReached.f
  refine .bind ev_free (.pos rfl (.ite (fun _ => skip) (fun hl => ?_)))
  refine .bind (ev_near l) ?_
  cases hb : nearB (rels l) with
  | false => exact skip
  | true =>
    obtain ⟨hl1, hnear⟩ := nearB_near hb
    rw [rels_length] at hl1
    refine Ev.step (fun k => by simp only [L2_ZoneReached.j0, Bool.not_true, Bool.false_eq_true, if_false]; rfl) ?_
    refine .bind (ev_zoneOf (by omega)) ?_
    cases hE : zErr N (rels l) with
    | some e =>
      rw [close_err hE]
      exact .bind .some (.neg (by simp) (skip1 _ _))
    | none =>
      rw [close_ok hE]
      refine .bind .some (.pos rfl ?_)
      obtain ⟨n, hn, hn1, hn5, hlen, _, _⟩ := zErr_none hE
      by_cases hf : Fine (Bd n (diag n (rels l)))
      · obtain ⟨hC, hclosed, hnearC⟩ := closeZ_near hn5 hlen (norm_of hE) hnear (by decide) hf
        rw [shutZ_some hn hC]
        refine .pos rfl (.ite (fun _ => skip1 _ _) (fun h1 => .ite (fun _ => skip1 _ _) (fun h2 => .ite (fun _ => skip1 _ _) (fun h3 => ?_))))
        by_cases h4 : j > N
        · rw [decide_eq_true h4]; exact skip1 _ _
        · rw [decide_eq_false h4]
          refine Ev.step (fun k => by simp only [L2_ZoneReached.j1, Bool.false_eq_true, if_false]; rfl) (.ite (fun _ => skip2 _ _) (fun h5 => ?_))
          have hw : (((zces (preFree n (rels l))).length : Int) != (wrap64 ((wrap64 (N + 1)) * (wrap64 (N + 1))))) = false := by
            rw [zces_length, free_length' hlen, sq64 hn (by omega)]
            simp
          rw [hw]
          exact reached_j2 (by omega) hnear hE hn hn1 hn5 hlen hf ⟨by omega, by omega⟩ ⟨by omega, by omega⟩
      · rw [shutZ_none hn ((closeZ_none hn5 hlen (near_mono hnear (by decide))).2 hf)]
        exact .neg (by decide) (skip1 _ _)
end Go.Proofs.Rcp
