import Derived.Test.YtplaobhghfndgaaGreatDoorTxt
/-! Newton steps for integer square roots: plain facts. -/
namespace Go.Proofs.Vc
/-- Newton's step from above. -/
theorem newton_ge {n g r : Nat} (hg : 0 < g) (hr : r * r ≤ n) : r ≤ (g + n / g) / 2 := by
  rw [Nat.le_div_iff_mul_le (by decide)]
  rcases Nat.le_total r g with h | h
  · -- g = r + d; n / g ≥ r - d
    obtain ⟨d, rfl⟩ : ∃ d, g = r + d := ⟨g - r, by omega⟩
    rcases Nat.le_total d r with h2 | h2
    · obtain ⟨e, rfl⟩ : ∃ e, r = d + e := ⟨r - d, by omega⟩
      have : e ≤ n / (d + e + d) := (Nat.le_div_iff_mul_le hg).2 (Nat.le_trans (by grind) hr)
      omega
    · have := Nat.zero_le (n / (r + d))
      generalize n / (r + d) = f at *
      omega
  · obtain ⟨d, rfl⟩ : ∃ d, r = g + d := ⟨r - g, by omega⟩
    have : g + 2 * d ≤ n / g := (Nat.le_div_iff_mul_le hg).2 (Nat.le_trans (by grind) hr)
    omega
theorem newton_stop {n g : Nat} (hg : 0 < g) (h : g ≤ (g + n / g) / 2) : g * g ≤ n := by
  have h1 : g * 2 ≤ g + n / g := (Nat.le_div_iff_mul_le (by decide)).1 h
  have h2 : g ≤ n / g := by omega
  exact (Nat.le_div_iff_mul_le hg).1 h2
/-- The floor of the mean. -/
theorem flo_eq {q : Rat} {k : Int} (h1 : (k : Rat) ≤ q) (h2 : q < (k : Rat) + 1) : flo q = k := by
  unfold flo
  have h3 : k ≤ q.floor := Rat.le_floor_iff.2 h1
  have h4 : q.floor < k + 1 := by
    have h5 : ((q.floor : Int) : Rat) < ((k + 1 : Int) : Rat) := by
      have := Rat.floor_le q
      rw [Rat.intCast_add]
      have : ((1 : Int) : Rat) = 1 := rfl
      grind
    exact Rat.intCast_lt_intCast.1 h5
  have : q.floor = k := by omega
  rw [this]
theorem newton_flo {n g : Nat} (hg : 0 < g) : flo (((g : Rat) + (n : Rat) / (g : Rat)) * (1 / 2)) = (((g + n / g) / 2 : Nat) : Rat) := by
  have h1 := Nat.div_add_mod n g
  have h2 := Nat.mod_lt n hg
  have h3 := Nat.div_add_mod (g + n / g) 2
  have h4 := Nat.mod_lt (g + n / g) (show 0 < 2 by decide)
  generalize hx : n / g = x at *
  generalize hy : n % g = y at *
  generalize hk : (g + x) / 2 = k at *
  generalize hz : (g + x) % 2 = z at *
  have hg' : (0 : Rat) < (g : Rat) := by exact_mod_cast (Rat.natCast_lt_natCast.2 hg)
  have e1 : (n : Rat) = (g : Rat) * x + y := by rw [← h1, Rat.natCast_add, Rat.natCast_mul]
  have e2 : (2 : Rat) * k + z = (g : Rat) + x := by
    have := congrArg (fun n : Nat => (n : Rat)) h3
    simp only [Rat.natCast_add, Rat.natCast_mul] at this
    exact this
  have e3 : (y : Rat) < (g : Rat) := Rat.natCast_lt_natCast.2 h2
  have e4 : (0 : Rat) ≤ (y : Rat) := by exact Rat.natCast_nonneg
  have e5 : (0 : Rat) ≤ (z : Rat) := by exact Rat.natCast_nonneg
  have e6 : (z : Rat) ≤ 1 := by
    have : z ≤ 1 := by omega
    exact_mod_cast (Rat.natCast_le_natCast.2 this)
  have e7 : (n : Rat) / g = x + (y : Rat) / g := by rw [e1]; grind
  have e8 : (0 : Rat) ≤ (y : Rat) / g := by
    rw [Rat.div_def]; exact Rat.mul_nonneg e4 (Rat.le_of_lt (Rat.inv_pos.2 hg'))
  have e9 : (y : Rat) / g < 1 := by
    have : (y : Rat) / g * g < 1 * g := by rw [Rat.div_mul_cancel (Rat.ne_of_gt hg'), Rat.one_mul]; exact e3
    exact Rat.lt_of_mul_lt_mul_right this (Rat.le_of_lt hg')
  rw [e7]
  generalize (y : Rat) / g = f at *
  have := flo_eq (q := ((g : Rat) + (x + f)) * (1/2)) (k := (k : Int)) (by rw [Rat.intCast_natCast]; grind) (by rw [Rat.intCast_natCast]; grind)
  rw [this, Rat.intCast_natCast]
end Go.Proofs.Vc
