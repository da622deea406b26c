/- Plain law: greatest common divisors and the CHINESE remainders. No program. -/
namespace Go.Proofs.Rcn

theorem bezout (a : Nat) : ∀ b : Nat, ∃ s t : Int, (a : Int) * s + (b : Int) * t = ((Nat.gcd a b : Nat) : Int) := by
  induction a using Nat.strongRecOn with
  | _ a ih =>
    intro b
    rcases Nat.eq_zero_or_pos a with rfl | ha
    · exact ⟨0, 1, by simp⟩
    · obtain ⟨s, t, h⟩ := ih (b % a) (Nat.mod_lt _ ha) a
      refine ⟨t - ((b / a : Nat) : Int) * s, s, ?_⟩
      rw [Nat.gcd_rec a b, ← h]
      have e : (b : Int) = (a : Int) * ((b / a : Nat) : Int) + ((b % a : Nat) : Int) := by
        have := Nat.div_add_mod b a
        exact_mod_cast this.symm
      generalize ((b / a : Nat) : Int) = q at *
      generalize ((b % a : Nat) : Int) = r at *
      rw [e, Int.mul_sub, Int.add_mul]
      have : (a : Int) * (q * s) = (a : Int) * q * s := by rw [Int.mul_assoc]
      omega

/-- Where the rests agree by the greatest divisor of both, some number of the one is of the other. -/
theorem crt {m n : Nat} (hn : 0 < n) {r s : Int} (h : ((Nat.gcd m n : Nat) : Int) ∣ s - r) : ∃ k : Nat, k < n ∧ (n : Int) ∣ (r + (k : Int) * m) - s := by
  obtain ⟨x, y, hb⟩ := bezout m n
  obtain ⟨q, hq⟩ := h
  have hn' : (0 : Int) < n := by exact_mod_cast hn
  refine ⟨((x * q) % n).toNat, ?_, ?_⟩
  · have h1 := Int.emod_lt_of_pos (x * q) hn'
    have h2 := Int.emod_nonneg (x * q) (show (n : Int) ≠ 0 by omega)
    omega
  · have h2 := Int.emod_nonneg (x * q) (show (n : Int) ≠ 0 by omega)
    rw [Int.toNat_of_nonneg h2]
    have e : x * q % n = x * q - n * (x * q / n) := by rw [Int.emod_def]
    rw [e]
    refine ⟨- (y * q) - (x * q / n) * m, ?_⟩
    have e2 : s = r + (↑(Nat.gcd m n) : Int) * q := by omega
    rw [e2, ← hb]
    generalize x * q / ↑n = d
    have a1 : (x * q - ↑n * d) * (m : Int) = ↑m * x * q - ↑n * (d * m) := by
      rw [Int.sub_mul, Int.mul_comm (x * q) m, Int.mul_assoc, Int.mul_assoc]
    have a2 : ((m : Int) * x + ↑n * y) * q = ↑m * x * q + ↑n * (y * q) := by
      rw [Int.add_mul, Int.mul_assoc (n : Int)]
    have a3 : (n : Int) * (-(y * q) - d * m) = -(↑n * (y * q)) - ↑n * (d * m) := by
      rw [Int.mul_sub, Int.mul_neg]
    rw [a1, a2, a3]
    omega

end Go.Proofs.Rcn
