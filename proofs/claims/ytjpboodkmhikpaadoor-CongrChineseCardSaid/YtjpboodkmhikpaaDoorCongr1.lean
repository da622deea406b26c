import Derived.Test.YtjpboodkmhikpaaDoorChin
import Derived.Test.YtjpboodkmhikpaaDoorWd
import Derived.Test.YtjpboodkmhikpaaDoorProg
import Derived.WalkKit
import Derived.WalkSpells
import Derived.WalkLawsBesides
import Derived.Outline
import Derived.Lib.Hide
import Derived.Deep.QuietTactic
import Derived.BigQuiet
namespace Go.Proofs.Rcn
open Go Go.RowKit

/-- A right congruence. -/
def CV (r m : Int) : Prop := (m = 0 ∧ -1099511627776 ≤ r ∧ r ≤ 1099511627776) ∨ (1 ≤ m ∧ m ≤ 1048576 ∧ 0 ≤ r ∧ r < m)

/-- The greatest common divisor of all. -/
def gcdL (xs : List Int) : Nat := xs.foldl (fun g x => Nat.gcd g x.natAbs) 0
theorem gcdL_snoc (xs : List Int) (x : Int) : gcdL (xs ++ [x]) = Nat.gcd (gcdL xs) x.natAbs := by simp [gcdL]
theorem gcd_le {g x b : Nat} (hg : g ≤ b) (hx : x ≤ b) : Nat.gcd g x ≤ b := by
  rcases Nat.eq_zero_or_pos g with rfl | h
  · simpa using hx
  · exact Nat.le_trans (Nat.le_of_dvd h (Nat.gcd_dvd_left g x)) hg
theorem take_snoc {xs : List Int} {k : Nat} (h : k < xs.length) : xs.take (k + 1) = xs.take k ++ [xs.getD k 0] := by
  rw [List.take_succ_eq_append_getElem h]
  simp [List.getD_eq_getElem?_getD, List.getElem?_eq_getElem h]

set_option maxRecDepth 100000 in
set_option maxHeartbeats 400000 in
theorem csize_any (x : Int) (w : World) (h1 : -4611686018427387904 ≤ x) (h2 : x ≤ 4611686018427387904) :
    Calls Tryd.prog 109 #[.int .i64 x] w fun e w' => e = .returned (.int .i64 (x.natAbs : Nat)) ∧ w = w' := by
  go_enter Tryd.func109, Tryd.ntmps109
  go_wp2
  all_goals (go_ret; exact ⟨ret_int (by omega), rfl⟩)

set_option maxRecDepth 100000 in
set_option maxHeartbeats 1000000 in
theorem gcd_any (g0 c : Nat) (xs : List Int) (w : World) (hnn : xs.length ≤ 1000) (hb : ∀ k, k < xs.length → -4611686018427387904 ≤ xs.getD k 0 ∧ xs.getD k 0 ≤ 4611686018427387904)
    (hc : ∀ k, k < xs.length → w.cell? ⟨g0, k, none⟩ = some (.int .i64 (xs.getD k 0))) :
    Calls Tryd.prog 66 #[.slice (some ⟨g0, 0, none⟩) xs.length c] w fun e w' => e = .returned (.int .i64 (gcdL xs : Nat)) ∧ ∃ m, w' = w.drewN m := by
  have HC := Lib.hid hc
  have HB := Lib.hid hb
  clear hc hb
  go_enter Tryd.func66, Tryd.ntmps66
  go_wp2
  go_loopw [3, 9] (fun g i wr => ∃ k m G : Nat, k ≤ xs.length ∧ wr = w.drewN m ∧ i = .int .i64 k ∧ g = .int .i64 G ∧ Hid (G = gcdL (xs.take k)) ∧ G ≤ 4611686018427387904) (fun _ i _ => xs.length - (intOf i).toNat)
  case atStart => exact ⟨0, 0, 0, Nat.zero_le _, rfl, rfl, rfl, rfl, by omega⟩
  case round =>
    obtain ⟨k, m, G, hk, rfl, rfl, rfl, HG, hg⟩ := hrel
    by_cases hlt : k < xs.length
    · have hcell := HC.out k hlt
      have hbk := HB.out k hlt
      have HT := Lib.hid (take_snoc hlt)
      generalize hx : xs.getD k 0 = x at *
      clear hx
      go_wp2_with (go_at_call 109; refine (csize_any _ _ hbk.1 hbk.2).mono ?_; rintro e w' ⟨rfl, rfl⟩)
      have hq : x.natAbs ≤ 4611686018427387904 := by omega
      have HA : Hid (Nat.gcd G x.natAbs = gcdL (xs.take (k + 1))) := by
        show Nat.gcd G x.natAbs = gcdL (xs.take (k + 1))
        rw [HT.out, gcdL_snoc, HG.out]
      have hle := gcd_le hg hq
      generalize x.natAbs = y at *
      go_loopw [3, 6] (fun g a wr => ∃ p q m : Nat, wr = w.drewN m ∧ g = .int .i64 p ∧ a = .int .i64 q ∧ Hid (Nat.gcd p q = Nat.gcd G y) ∧ p ≤ 4611686018427387904 ∧ q ≤ 4611686018427387904) (fun _ a _ => (intOf a).toNat)
      case atStart => exact ⟨G, y, m, rfl, rfl, rfl, rfl, hg, hq⟩
      case round =>
        obtain ⟨p, q, m2, rfl, rfl, rfl, HQ, hp, hq2⟩ := hrel
        by_cases h0 : q = 0
        · subst h0
          go_wp2
          refine ⟨⟨k + 1, m2, p, by omega, rfl, by go_num, rfl, ?_, hp⟩, by simp [intOf]; omega⟩
          show p = gcdL (xs.take (k + 1))
          rw [← HA.out, ← HQ.out, Nat.gcd_zero_right]
        · have h1 : (1 : Int) ≤ (q : Int) := by omega
          have h2 : ((q : Int) != 0) = true := by simpa using h0
          go_wp2
          go_quiet (fail)
          go_wp2
          have hlt2 := Nat.mod_lt p (show 0 < q by omega)
          refine ⟨⟨q, p % q, m2 + nq, World.drewN_drewN .., rfl, by simp, ?_, hq2, by omega⟩, by simp [intOf]; omega⟩
          show Nat.gcd q (p % q) = Nat.gcd G y
          rw [← HQ.out, Nat.gcd_comm p q, Nat.gcd_rec q p, Nat.gcd_comm]
    · go_wp2
      go_ret
      refine ⟨ret_int ?_, m, rfl⟩
      rw [HG.out, List.take_of_length_le (by omega)]

end Go.Proofs.Rcn
