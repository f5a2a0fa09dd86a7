import Derived.Test.YtplaobhghfndgaaGreatDoorDig
/-! Plain facts behind the reference: halving divisors, quotients bit by bit. -/
namespace Go.Proofs.Vc
theorem gcd_half_l {x y : Nat} (hx : x % 2 = 0) (hy : y % 2 = 1) : Nat.gcd (x / 2) y = Nat.gcd x y := by
  have h1 : Nat.Coprime 2 y := by
    rw [Nat.coprime_iff_gcd_eq_one, Nat.gcd_rec, hy]; rfl
  obtain ⟨k, rfl⟩ : ∃ k, x = 2 * k := ⟨x / 2, by omega⟩
  rw [Nat.mul_div_cancel_left _ (by decide), Nat.Coprime.gcd_mul_left_cancel _ h1]
theorem gcd_half_r {x y : Nat} (hx : x % 2 = 1) (hy : y % 2 = 0) : Nat.gcd x (y / 2) = Nat.gcd x y := by
  rw [Nat.gcd_comm, gcd_half_l hy hx, Nat.gcd_comm]
theorem gcd_half_both {x y : Nat} (hx : x % 2 = 0) (hy : y % 2 = 0) : 2 * Nat.gcd (x / 2) (y / 2) = Nat.gcd x y := by
  obtain ⟨k, rfl⟩ : ∃ k, x = 2 * k := ⟨x / 2, by omega⟩
  obtain ⟨l, rfl⟩ : ∃ l, y = 2 * l := ⟨y / 2, by omega⟩
  rw [Nat.mul_div_cancel_left _ (by decide), Nat.mul_div_cancel_left _ (by decide), Nat.gcd_mul_left]
theorem gcd_sub_r {x y : Nat} (h : x ≤ y) : Nat.gcd x (y - x) = Nat.gcd x y := Nat.gcd_sub_self_right h
theorem val_bit {l : List Nat} (h : Low 65536 l) (i : Nat) : val 65536 l / 2 ^ i % 2 = l.getD (i / 16) 0 / 2 ^ (i % 16) % 2 := by
  induction l generalizing i with
  | nil => simp [val]
  | cons x l ih =>
    obtain ⟨hx, hl⟩ := low_cons.1 h
    simp only [val]
    rcases Nat.lt_or_ge i 16 with hi | hi
    · rw [Nat.div_eq_of_lt hi, Nat.mod_eq_of_lt hi, List.getD_cons_zero]
      have h1 : (65536 : Nat) = 2 ^ i * (2 ^ (15 - i) * 2) := by rw [← Nat.pow_succ, ← Nat.pow_add, show i + (15 - i + 1) = 16 from by omega]
      rw [h1, Nat.mul_assoc, Nat.add_mul_div_left _ _ (Nat.two_pow_pos i), Nat.mul_comm _ 2, Nat.mul_assoc, Nat.add_mul_mod_self_left]
    · obtain ⟨j, rfl⟩ : ∃ j, i = j + 16 := ⟨i - 16, by omega⟩
      have h1 : (j + 16) / 16 = j / 16 + 1 := by omega
      have h2 : (j + 16) % 16 = j % 16 := by omega
      rw [h1, h2, List.getD_cons_succ, ← ih hl]
      have h3 : 2 ^ (j + 16) = 65536 * 2 ^ j := by rw [Nat.pow_add, Nat.mul_comm]
      rw [h3, ← Nat.div_div_eq_div_mul, Nat.add_mul_div_left _ _ (by decide), Nat.div_eq_of_lt hx, Nat.zero_add]
/-- One bit more of a quotient. -/
theorem quot_bit {x i y q r : Nat} (hy : 0 < y) (h : x / 2 ^ (i + 1) = q * y + r) (hr : r < y) :
    (y ≤ 2 * r + x / 2 ^ i % 2 → x / 2 ^ i = (2 * q + 1) * y + (2 * r + x / 2 ^ i % 2 - y) ∧ 2 * r + x / 2 ^ i % 2 - y < y) ∧
    (2 * r + x / 2 ^ i % 2 < y → x / 2 ^ i = (2 * q) * y + (2 * r + x / 2 ^ i % 2)) := by
  have h1 : x / 2 ^ (i + 1) = x / 2 ^ i / 2 := by rw [Nat.pow_succ, Nat.div_div_eq_div_mul]
  rw [h1] at h
  have h2 := Nat.div_add_mod (x / 2 ^ i) 2
  generalize x / 2 ^ i = z at *
  have h3 : (2 * q) * y = 2 * (q * y) := Nat.mul_assoc _ _ _
  have h4 : (2 * q + 1) * y = 2 * (q * y) + y := by rw [Nat.succ_mul, h3]
  generalize q * y = w at *
  refine ⟨fun h5 => ⟨?_, ?_⟩, fun h5 => ?_⟩ <;> omega
end Go.Proofs.Vc
