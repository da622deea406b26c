import Derived.Test.YtcalcnfppnbooaaDoorOxQc
/- Package octagon: two; Widen. -/
set_option linter.unusedVariables false
set_option linter.unusedSimpArgs false
namespace Go.Proofs.Rco
open Go Go.RowKit Go.Proofs.Rcn Go.Proofs.Rcg Go.Proofs.YtcalcnfppnbooaaDoor.Z Go.Proofs.YtcalcnfppnbooaaDoorW.PrintWords
theorem oErr_none {N : Int} {L : List Cel} (h : oErr N L = none) : ∃ n : Nat, 2 * N = n ∧ n ≤ 8 ∧ L.length = n * n ∧ (∀ j, j < L.length → bad (cg L j) = false) ∧ (∀ j, j < L.length → zfar (cg L j).most = false) ∧ ∀ a, a < n → ∀ b, b < n → cg L (a * n + b) = cg L (op b * n + op a) := by
  rw [oErr_eq] at h
  by_cases h1 : N < 0 ∨ N > 4
  · rw [if_pos h1] at h; cases h
  rw [if_neg h1] at h
  by_cases h2 : (L.length : Int) ≠ 4 * N * N
  · rw [if_pos h2] at h; cases h
  rw [if_neg h2] at h
  by_cases h3 : L.any bad = true
  · rw [if_pos h3] at h; cases h
  rw [if_neg h3] at h
  by_cases h4 : (L.any fun c => zfar c.most) = true
  · rw [if_pos h4] at h; cases h
  rw [if_neg h4] at h
  by_cases h5 : cohB (2 * N).toNat L = true
  · obtain ⟨n, hn⟩ : ∃ n : Nat, 2 * N = n := ⟨(2 * N).toNat, by omega⟩
    rw [show (2 * N).toNat = n by omega] at h5
    exact ⟨n, hn, by omega, len_sq hn (Classical.not_not.1 h2), fun j hj => Bool.eq_false_iff.2 fun q => h3 (anyBad_true hj q), fun j hj => Bool.eq_false_iff.2 fun q => h4 ((anyFar L).2 ⟨j, hj, q⟩), cohB_iff.1 h5⟩
  · rw [if_neg h5] at h; cases h
/-- What comes back: a zone, a yes or no, an error. -/
def ZRet [EA] (w : World) (R : Int × List OC × Bool × Option Int) (e : Ending) (w' : World) : Prop :=
  ∃ v : Value, e = .returned (.tuple #[.agg #[.int .i64 R.1, v], .bool R.2.2.1, errW R.2.2.2]) ∧ Kd.R k146 146 w' w.heap.size (fun _ => True) v R.2.1 ∧ Below w.heap.size w w'
theorem ZRet.no [EA] {w w' : World} {er : Option Int} (hb : Below w.heap.size w w') : ZRet w (0, [], false, er) (.returned (.tuple #[.agg #[.int .i64 0, .slice none 0 0], .bool false, errW er])) w' := ⟨_, rfl, R_nilZ _ _, hb⟩

/-- What comes back: a zone, an error. -/
def ZRet2 [EA] (w : World) (R : Int × List OC × Option Int) (e : Ending) (w' : World) : Prop :=
  ∃ v : Value, e = .returned (.tuple #[.agg #[.int .i64 R.1, v], errW R.2.2]) ∧ Kd.R k146 146 w' w.heap.size (fun _ => True) v R.2.1 ∧ Below w.heap.size w w'
theorem ZRet2.no [EA] {w w' : World} {er : Option Int} (hb : Below w.heap.size w w') : ZRet2 w (0, [], er) (.returned (.tuple #[.agg #[.int .i64 0, .slice none 0 0], errW er])) w' := ⟨_, rfl, R_nilZ _ _, hb⟩
/-- What a closing comes to: the value, and whose row it is. -/
def shutV (N : Int) (n : Nat) (w1 : World) (b : Nat) (C : Option (List Cel)) (z : Int) (Az : Option Addr) (nz cz : Nat) (ok : Bool) : Prop :=
  match C with
  | none => z = 0 ∧ Az = none ∧ nz = 0 ∧ cz = 0 ∧ ok = false
  | some C => z = N ∧ nz = n ∧ ok = true ∧ ZRow w1 b oC (.slice Az nz cz) C
theorem zclose_any (A : Option Addr) (n1 n c : Nat) (N : Int) (L : List Cel) (w : World) (hN : 2 * N = n1) (h5 : n1 ≤ 8) (hl : n = n1 * n1) (hz : RCel w A n L) {C : Option (List Cel)} (hC : closeO n1 L = C) :
    Calls Tryd.prog 105 #[.agg #[.int .i64 N, .slice A n c]] w fun e w' => ∃ z Az nz cz ok, e = .returned (.tuple #[.agg #[.int .i64 z, .slice Az nz cz], .bool ok]) ∧ shutV N n w' w.heap.size C z Az nz cz ok ∧ Below w.heap.size w w' := by
  subst hC
  refine (close_any A n1 n c N L w hN h5 hl hz).mono ?_
  rintro e w' ⟨hb, hp⟩
  cases h : closeO n1 L with
  | none => rw [h] at hp; exact ⟨_, _, _, _, _, hp, ⟨rfl, rfl, rfl, rfl, rfl⟩, hb⟩
  | some C => rw [h] at hp; obtain ⟨A', c', rfl, hr⟩ := hp; exact ⟨_, _, _, _, _, rfl, ⟨rfl, rfl, rfl, hr⟩, hb⟩

/-- In the loop: what has been widened; the other one's row; the variables. -/
structure WL (w5 : World) (by_ bo g n c ca : Nat) (N : Int) (Ay : Option Addr) (cy : Nat) (K X : List Cel) (br : Nat) (wr : World) : Prop where
  below : Below w5.heap.size w5 wr
  out : Cell2 wr bo (.int .i64 N) (.slice (some ⟨g, 0, none⟩) n c)
  row : ZRow wr w5.heap.size oC (.slice (some ⟨g, 0, none⟩) n c) X
  ln : n = X.length
theorem WL.drewN {w5 : World} {by_ bo g n c ca : Nat} {N : Int} {Ay : Option Addr} {cy : Nat} {K X : List Cel} {br : Nat} {wr : World} (h : WL w5 by_ bo g n c ca N Ay cy K X br wr) (q : Nat) : WL w5 by_ bo g n c ca N Ay cy K X br (wr.drewN q) :=
  ⟨Go.Proofs.Rcn.below_drewN h.below q, ⟨h.out.lt, h.out.c0, h.out.c1, h.out.f0, h.out.f1⟩, h.row, h.ln⟩
theorem WL.put {w5 : World} {by_ bo g n c ca : Nat} {N : Int} {Ay : Option Addr} {cy : Nat} {K X : List Cel} {br : Nat} {wr : World} (h : WL w5 by_ bo g n c ca N Ay cy K X br wr) (hg : w5.heap.size ≤ g) (hbo : bo ≠ g) (k : Nat) (a : Bool) (m : Int) :
    WL w5 by_ bo g n c ca N Ay cy K (X.set k ⟨a, m⟩) br ((wr.setCell ⟨g, k * 2, none⟩ (.bool a)).setCell ⟨g, k * 2 + 1, none⟩ (.int .i64 m)) :=
  ⟨Go.Proofs.Rcn.below_set (Go.Proofs.Rcn.below_set h.below hg _) hg _, (h.out.set (by omega) _ _).set (by omega) _ _, h.row.put h.ln k a m, by rw [List.length_set]; exact h.ln⟩
end Go.Proofs.Rco
