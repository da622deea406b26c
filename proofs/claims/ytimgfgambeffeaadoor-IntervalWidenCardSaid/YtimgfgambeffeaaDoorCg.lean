/- Plain law: congruences: what is one in form, joined, met, within; greatest common divisors. No program. -/
import Derived.Test.YtimgfgambeffeaaDoorChin
import Derived.RowKit
namespace Go.Proofs.Rcp
open Go.RowKit (wrap64)

/-- The greatest common divisor of all. -/
def gcdL (xs : List Int) : Nat := xs.foldl (fun g x => Nat.gcd g x.natAbs) 0
theorem gcdL_snoc (xs : List Int) (x : Int) : gcdL (xs ++ [x]) = Nat.gcd (gcdL xs) x.natAbs := by simp [gcdL]
theorem take_snoc {xs : List Int} {k : Nat} (h : k < xs.length) : xs.take (k + 1) = xs.take k ++ [xs.getD k 0] := by
  rw [List.take_succ_eq_append_getElem h]
  simp [List.getD_eq_getElem?_getD, List.getElem?_eq_getElem h]

/-- Right, or the error's number. -/
def cValid (r m : Int) : Option Int := if m < 0 ∨ m > 1048576 ∨ (m = 0 ∧ (r > 1099511627776 ∨ r < -1099511627776)) then some 2 else if m > 0 ∧ (r < 0 ∨ r ≥ m) then some 3 else none
/-- A right congruence. -/
def CV (r m : Int) : Prop := (m = 0 ∧ -1099511627776 ≤ r ∧ r ≤ 1099511627776) ∨ (1 ≤ m ∧ m ≤ 1048576 ∧ 0 ≤ r ∧ r < m)
theorem cValid_none {r m : Int} : cValid r m = none ↔ CV r m := by
  unfold cValid CV
  split
  · simp; omega
  · split
    · simp; omega
    · simp; omega
theorem CV.bd {r m : Int} (h : CV r m) : -1099511627776 ≤ r ∧ r ≤ 1099511627776 ∧ 0 ≤ m ∧ m ≤ 1048576 := by unfold CV at h; omega

/-- In form. -/
def told (r m : Int) : Int × Int := if m > 1048576 ∨ (m = 0 ∧ (r > 1099511627776 ∨ r < -1099511627776)) then (0, 1) else if m > 0 then (r % m, m) else (r, 0)
theorem told_big {r m : Int} (h : m > 1048576) : told r m = (0, 1) := by rw [told, if_pos (.inl h)]
theorem told_pos {r m : Int} (h1 : 1 ≤ m) (h2 : m ≤ 1048576) : told r m = (r % m, m) := by rw [told, if_neg (by omega), if_pos (by omega)]
theorem told_one {r : Int} (h1 : -1099511627776 ≤ r) (h2 : r ≤ 1099511627776) : told r 0 = (r, 0) := by rw [told, if_neg (by omega), if_neg (by omega)]
theorem told_far {r : Int} (h : r > 1099511627776 ∨ r < -1099511627776) : told r 0 = (0, 1) := by rw [told, if_pos (.inr ⟨rfl, h⟩)]
theorem told_valid (r : Int) {m : Int} (h : 0 ≤ m) : CV (told r m).1 (told r m).2 := by
  unfold told
  split
  · exact .inr (by decide)
  · split
    · have h1 := Int.emod_nonneg r (show m ≠ 0 by omega)
      have h2 := Int.emod_lt_of_pos r (show 0 < m by omega)
      exact .inr ⟨by dsimp only; omega, by dsimp only; omega, h1, h2⟩
    · exact .inl ⟨rfl, by dsimp only; omega, by dsimp only; omega⟩

/-- Is n one of them? -/
def inC (r m n : Int) : Bool := if m = 0 then n == r else n % m == r
/-- Is one in the other? -/
def within (r m s n : Int) : Bool := if n = 0 then r == s && m == n else m % n == 0 && inC s n r

theorem tmod_bd (n m : Int) (h : 1 ≤ m) : -m < n.tmod m ∧ n.tmod m < m := by
  rw [Int.tmod_eq_emod]
  have h1 := Int.emod_nonneg n (show m ≠ 0 by omega)
  have h2 := Int.emod_lt_of_pos n (show 0 < m by omega)
  have h3 : (m.natAbs : Int) = m := by omega
  split <;> omega
theorem tmod_up (n m : Int) (h : 1 ≤ m) : (n.tmod m + m) % m = n % m := by
  rw [Int.add_emod_right, Int.tmod_eq_emod]
  have h3 : (m.natAbs : Int) = m := by omega
  split
  · simp
  · rw [h3, Int.sub_emod_right, Int.emod_emod]
theorem up_mod (n m : Int) (h : 1 ≤ m) (h2 : m ≤ 1048576) : Int.tmod (wrap64 (Int.tmod n m + m)) m = n % m := by
  obtain ⟨b1, b2⟩ := tmod_bd n m h
  have e : wrap64 (n.tmod m + m) = n.tmod m + m := by unfold wrap64; omega
  rw [e, Int.tmod_eq_emod_of_nonneg (by omega), tmod_up n m h]
theorem w64 {n : Int} (h1 : -9223372036854775808 ≤ n) (h2 : n ≤ 9223372036854775807) : wrap64 n = n := by unfold wrap64; omega
theorem tmod_dvd {a g : Int} : Int.tmod a g = 0 ↔ g ∣ a := ⟨Int.dvd_of_tmod_eq_zero, Int.tmod_eq_zero_of_dvd⟩
end Go.Proofs.Rcp
